/-
  'FnExactPlayerAsk' returns true, for every player and every ask: both packages' 'PlayerAsk' answer alike, keep what they are given, and answer alike again.
  Conditions: none.
-/
import Derived.Test.YtchofialljhojaaGU
import Derived.Test.YtchofialljhojaaGO
import Derived.Test.YtchofialljhojaaGG
namespace Go.Proofs.Ytchofialljhojaa
open Go.RowKit Rg
set_option linter.unusedVariables false
set_option linter.unusedSimpArgs false

theorem ask_len (r : ReqV) (xs : List ReplyT) (t : ReqV) (h : xs.length ≤ 1048576) : (askL r xs t).1.2.length ≤ 1048576 := by
  unfold askL
  split
  · simp
  · exact h
set_option maxRecDepth 100000 in
set_option maxHeartbeats 4000000 in
theorem lawEx (r : ReqV) (A : Option Addr) (n c : Nat) (xs : List ReplyT) (t : ReqV) (w : World) (hn : n = xs.length) (hc : n ≤ c) (hcm : c ≤ maxLen) (hA0 : Sl encReply 4 w 0 w.heap.size A xs) :
    Calls Try.prog 9 #[.agg #[.int .i64 r.1, .int .i64 r.2.1, .int .i64 r.2.2.1, .int .i64 r.2.2.2.1, .int .i64 r.2.2.2.2, .slice A n c], .agg #[.int .i64 t.1, .int .i64 t.2.1, .int .i64 t.2.2.1, .int .i64 t.2.2.2.1, .int .i64 t.2.2.2.2]] w fun e w' => e = .returned (.bool true) ∧ Below w.heap.size w w' := by
  have hn' := hide hn
  clear hn
  have hnm : n ≤ maxLen := Nat.le_trans hc hcm
  have hs1 : (w.alloc (.cells #[.int .i64 r.1, .int .i64 r.2.1, .int .i64 r.2.2.1, .int .i64 r.2.2.2.1, .int .i64 r.2.2.2.2, .slice A n c] 26)).heap.size = w.heap.size + 1 := by simp
  have hA1 : Below w.heap.size w (w.alloc (.cells #[.int .i64 r.1, .int .i64 r.2.1, .int .i64 r.2.2.1, .int .i64 r.2.2.2.1, .int .i64 r.2.2.2.2, .slice A n c] 26)) := (Below.refl _ _).alloc (Nat.le_refl _) _
  have hA2 : Below (w.alloc (.cells #[.int .i64 r.1, .int .i64 r.2.1, .int .i64 r.2.2.1, .int .i64 r.2.2.2.1, .int .i64 r.2.2.2.2, .slice A n c] 26)).heap.size (w.alloc (.cells #[.int .i64 r.1, .int .i64 r.2.1, .int .i64 r.2.2.1, .int .i64 r.2.2.2.1, .int .i64 r.2.2.2.2, .slice A n c] 26)) ((w.alloc (.cells #[.int .i64 r.1, .int .i64 r.2.1, .int .i64 r.2.2.1, .int .i64 r.2.2.2.1, .int .i64 r.2.2.2.2, .slice A n c] 26)).alloc (.cells #[.int .i64 t.1, .int .i64 t.2.1, .int .i64 t.2.2.1, .int .i64 t.2.2.2.1, .int .i64 t.2.2.2.2] 23)) := (Below.refl _ _).alloc (Nat.le_refl _) _
  have hB := hA1.trans (hA2.mono (by omega))
  have hl := (Box6.made w r.1 r.2.1 r.2.2.1 r.2.2.2.1 r.2.2.2.2 A n c 26).below hA2
  have hv := Box5.made (w.alloc (.cells #[.int .i64 r.1, .int .i64 r.2.1, .int .i64 r.2.2.1, .int .i64 r.2.2.2.1, .int .i64 r.2.2.2.2, .slice A n c] 26)) t.1 t.2.1 t.2.2.1 t.2.2.2.1 t.2.2.2.2 23
  rw [hs1] at hv
  clear hA1 hA2 hs1
  have hl' := hl
  have hv' := hv
  obtain ⟨l0, l1, l2, l3, l4, l5, lf0, lf1, lf2, lf3, lf4, lf5⟩ := hl'
  obtain ⟨v0, v1, v2, v3, v4, vf0, vf1, vf2, vf3, vf4⟩ := hv'
  go_enter Try.func9, Try.ntmps9
  go_wp2_with fail
  generalize (w.alloc (.cells #[.int .i64 r.1, .int .i64 r.2.1, .int .i64 r.2.2.1, .int .i64 r.2.2.2.1, .int .i64 r.2.2.2.2, .slice A n c] 26)).alloc (.cells #[.int .i64 t.1, .int .i64 t.2.1, .int .i64 t.2.2.1, .int .i64 t.2.2.2.1, .int .i64 t.2.2.2.2] 23) = w1 at *
  refine (szPlayer_c r A n c w1 hnm).mono ?_
  rintro e w2 ⟨rfl, hk2⟩
  have hl := hl.below hk2
  have hv := hv.below hk2
  have hB := hB.trans (hk2.mono hB.size)
  by_cases hb : n ≤ 1048576
  · simp only [hb, if_true]
    have d0 : decide ((1048576 : Int) - (n : Int) < 0) = false := by simp; omega
    have hbx : xs.length ≤ 1048576 := by have := hn'.out; omega
    obtain ⟨HR, HX, HB, hH⟩ : ∃ HR HX HB, askL r xs t = ((HR, HX), HB) := ⟨_, _, _, rfl⟩
    have hlen : HX.length ≤ 1048576 := by have := ask_len r xs t hbx; rw [hH] at this; exact this
    have hH := hide hH
    have q1 : (HB != HB) = false := by simp
    have q2 : decide ((1 : Int) + 4 * (xs.length : Int) < 0) = false := by simp; omega
    have q3 : decide ((1 : Int) + 4 * (HX.length : Int) < 0) = false := by simp; omega
    have hbb := hl
    obtain ⟨l0, l1, l2, l3, l4, l5, lf0, lf1, lf2, lf3, lf4, lf5⟩ := hbb
    have hbb := hv
    obtain ⟨v0, v1, v2, v3, vf0, vf1, vf2, vf3⟩ := hbb
    go_wp2
    have hll := hl.lt
    have hvl := hv.lt
    have hT := Below.refl w2.heap.size w2
    refine Code.wp_mono (Q := fun e a' w' => Hid (e = Exit.normal ∧ ∃ (b6 : Nat) (A3 : Option Addr) (c3 : Nat) (d16 d17 d18 d19 d20 d21 d22 d23 d24 d25 d26 d27 d28 : Value), a' = (⟨#[.agg #[.int .i64 r.1, .int .i64 r.2.1, .int .i64 r.2.2.1, .int .i64 r.2.2.2.1, .int .i64 r.2.2.2.2, .slice A n c], .agg #[.int .i64 t.1, .int .i64 t.2.1, .int .i64 t.2.2.1, .int .i64 t.2.2.2.1, .int .i64 t.2.2.2.2], .pointer (some ⟨w.heap.size, 0, none⟩), .pointer (some ⟨w.heap.size + 1, 0, none⟩), .bool false, .int .i64 (1048576 - (n : Int)), .pointer (some ⟨b6, 0, none⟩), .bool HB, undef, undef, undef, undef, undef, undef, undef, undef, d16, d17, d18, d19, d20, d21, d22, d23, d24, d25, d26, d27, d28, undef, undef, undef, undef, undef, undef, undef, undef, undef, undef, undef, undef, undef, undef, undef, undef, undef, undef, undef, undef, undef, undef, undef, undef, undef, undef, undef, undef, undef, undef, undef, undef, undef, undef, undef, undef, undef, undef, undef, undef, undef, undef, undef, undef, undef, undef, undef, undef, undef, undef, undef, undef, undef, undef, undef, undef, undef, undef, undef, undef, undef, undef, undef, undef, undef, undef, undef, undef, undef, undef, undef, undef, undef, undef, undef], []⟩ : Act) ∧ Below w2.heap.size w2 w' ∧ w2.heap.size ≤ b6 ∧ Box6 w' b6 (.int .i64 HR.1) (.int .i64 HR.2.1) (.int .i64 HR.2.2.1) (.int .i64 HR.2.2.2.1) (.int .i64 HR.2.2.2.2) (.slice A3 HX.length c3) ∧ Own encReply 4 37 w' w2.heap.size (.slice A3 HX.length c3) HX ∧ Hid (∀ k, (Value.slice A3 HX.length c3).ownBlock = some k → k ≠ b6))) ?_ ?_
    rotate_left
    · refine wp_region_O (Since _) [] [] [22, 24] (Ord.seg [0, 2] (Ord.both 1 8 (Ord.seg [] (Ord.both 3 8 (Ord.seg [] (Ord.both 4 8 (Ord.seg [5, 6, 7, 8, 9, 10] Ord.done) (Ord.seg [4, 5, 6, 7, 9, 10] Ord.done))) (Ord.seg [3, 4, 5, 6, 7, 9, 10] Ord.done))) (Ord.seg [1, 3, 4, 5, 6, 7, 9, 10] Ord.done))) (by kernel_rfl) (by kernel_rfl) (by kernel_rfl) (Since.drew _) ?_
      go_wp2_with (first
        | ((with_reducible refine wpO_seg ?_); simp only [pickL, List.toList_toArray, List.getElem?_cons_succ, List.getElem?_cons_zero]) | ((with_reducible refine wpO_both ?_ ?_) <;> simp only [pickL, List.toList_toArray, List.getElem?_cons_succ, List.getElem?_cons_zero]) | ((with_reducible refine wpO_done ?_); try dsimp only) | (with_reducible refine Since.and_ ?_ ?_; (focus (repeat (first | (with_reducible exact Since.refl _) | assumption | (with_reducible refine Since.drewR ?_) | (with_reducible refine Since.alloc ?_ _) | ((with_reducible refine Since.setNew ?_ ?_ _); rotate_left; (focus (first | omega | (simp; done) | (simp; omega)))) | ((with_reducible apply Since.below); rotate_left; (focus assumption))))); intro hS) | ((with_reducible refine wpT_q0 ?_ ?_ ?_ ?_); (focus rfl); (focus rfl); (focus rfl); intro K hK) | ((with_reducible apply wpT_l); (focus rfl); (focus rfl); (focus rfl); (focus rfl); (focus (first | exact Since.drew _ | assumption)); (focus (simp <;> omega)); (focus go_simp); intro K hK) | ((with_reducible apply wpT_lw); (focus exact wanted_yes _ _ _ rfl rfl rfl); (focus rfl); (focus rfl); (focus rfl); (focus (first | exact Since.drew _ | assumption)); (focus (simp <;> omega)); (focus go_simp); intro K hK) | ((with_reducible refine wpT_xs0 ?_ ?_ ?_); (focus rfl); (focus rfl); intro K hK) | ((with_reducible refine wpT_noL ?_ ?_); (focus (first | exact wanted_no _ _ _ rfl rfl rfl | exact wanted_un _ _ _ rfl rfl rfl)); simp only [setO, List.set_cons_succ, List.set_cons_zero]) | ((with_reducible refine wpT_q1 ?_ ?_ ?_ ?_); (focus exact wanted_yes _ _ _ rfl rfl rfl); (focus rfl); (focus rfl); intro K hK) | ((with_reducible refine wpT_xs1 ?_ ?_ ?_); (focus exact wanted_yes _ _ _ rfl rfl rfl); (focus rfl); intro K hK) | ((with_reducible refine wpT_nil ?_); try dsimp only)
        | fail)
      · have hD := (Below.refl w2.heap.size w2).drew
        have hS : Since w2 w2.drew := Since.drew _
        have hl := hl.below hD
        have hv := hv.below hD
        have hB := hB.trans (hD.mono hB.size)
        have hT := hT.trans (hD.mono hT.size)
        have z4 := hD.size
        generalize w2.drew = w4 at *
        refine (toPlayer_c r A n c 0 _ xs w4 hn'.out hb (hA0.below hB (Nat.le_refl _)) hB.size).mono ?_
        rintro e w5 ⟨A2, c2, rfl, oa, hk5⟩
        have hl := hl.below hk5
        have hv := hv.below hk5
        have hB := hB.trans (hk5.mono hB.size)
        have hT := hT.trans (hk5.mono hT.size)
        have z5 := hk5.size
        have hcapa := oa.cap
        have hbb := hl
        obtain ⟨l0, l1, l2, l3, l4, l5, lf0, lf1, lf2, lf3, lf4, lf5⟩ := hbb
        have hbb := hv
        obtain ⟨v0, v1, v2, v3, vf0, vf1, vf2, vf3⟩ := hbb
        have hL := hk5
        go_wp2_with (first
          | ((with_reducible refine wpO_seg ?_); simp only [pickL, List.toList_toArray, List.getElem?_cons_succ, List.getElem?_cons_zero]) | ((with_reducible refine wpO_both ?_ ?_) <;> simp only [pickL, List.toList_toArray, List.getElem?_cons_succ, List.getElem?_cons_zero]) | ((with_reducible refine wpO_done ?_); try dsimp only) | (with_reducible refine Since.and_ ?_ ?_; (focus (repeat (first | (with_reducible exact Since.refl _) | assumption | (with_reducible refine Since.drewR ?_) | (with_reducible refine Since.alloc ?_ _) | ((with_reducible refine Since.setNew ?_ ?_ _); rotate_left; (focus (first | omega | (simp; done) | (simp; omega)))) | ((with_reducible apply Since.below); rotate_left; (focus assumption))))); intro hS) | ((with_reducible refine wpT_q0 ?_ ?_ ?_ ?_); (focus rfl); (focus rfl); (focus rfl); intro K hK) | ((with_reducible apply wpT_l); (focus rfl); (focus rfl); (focus rfl); (focus rfl); (focus (first | exact Since.drew _ | assumption)); (focus (simp <;> omega)); (focus go_simp); intro K hK) | ((with_reducible apply wpT_lw); (focus exact wanted_yes _ _ _ rfl rfl rfl); (focus rfl); (focus rfl); (focus rfl); (focus (first | exact Since.drew _ | assumption)); (focus (simp <;> omega)); (focus go_simp); intro K hK) | ((with_reducible refine wpT_xs0 ?_ ?_ ?_); (focus rfl); (focus rfl); intro K hK) | ((with_reducible refine wpT_noL ?_ ?_); (focus (first | exact wanted_no _ _ _ rfl rfl rfl | exact wanted_un _ _ _ rfl rfl rfl)); simp only [setO, List.set_cons_succ, List.set_cons_zero]) | ((with_reducible refine wpT_q1 ?_ ?_ ?_ ?_); (focus exact wanted_yes _ _ _ rfl rfl rfl); (focus rfl); (focus rfl); intro K hK) | ((with_reducible refine wpT_xs1 ?_ ?_ ?_); (focus exact wanted_yes _ _ _ rfl rfl rfl); (focus rfl); intro K hK) | ((with_reducible refine wpT_nil ?_); try dsimp only)
          | fail)
        · refine (toReq_c t w5).mono ?_
          rintro e w6 ⟨rfl, hk6⟩
          have hl := hl.below hk6
          have hv := hv.below hk6
          have oa := oa.below hk6 (Nat.le_refl _)
          have hB := hB.trans (hk6.mono hB.size)
          have hT := hT.trans (hk6.mono hT.size)
          have z6 := hk6.size
          have hbb := hl
          obtain ⟨l0, l1, l2, l3, l4, l5, lf0, lf1, lf2, lf3, lf4, lf5⟩ := hbb
          have hbb := hv
          obtain ⟨v0, v1, v2, v3, vf0, vf1, vf2, vf3⟩ := hbb
          have hL := hk6
          go_wp2_with (first
            | ((with_reducible refine wpO_seg ?_); simp only [pickL, List.toList_toArray, List.getElem?_cons_succ, List.getElem?_cons_zero]) | ((with_reducible refine wpO_both ?_ ?_) <;> simp only [pickL, List.toList_toArray, List.getElem?_cons_succ, List.getElem?_cons_zero]) | ((with_reducible refine wpO_done ?_); try dsimp only) | (with_reducible refine Since.and_ ?_ ?_; (focus (repeat (first | (with_reducible exact Since.refl _) | assumption | (with_reducible refine Since.drewR ?_) | (with_reducible refine Since.alloc ?_ _) | ((with_reducible refine Since.setNew ?_ ?_ _); rotate_left; (focus (first | omega | (simp; done) | (simp; omega)))) | ((with_reducible apply Since.below); rotate_left; (focus assumption))))); intro hS) | ((with_reducible refine wpT_q0 ?_ ?_ ?_ ?_); (focus rfl); (focus rfl); (focus rfl); intro K hK) | ((with_reducible apply wpT_l); (focus rfl); (focus rfl); (focus rfl); (focus rfl); (focus (first | exact Since.drew _ | assumption)); (focus (simp <;> omega)); (focus go_simp); intro K hK) | ((with_reducible apply wpT_lw); (focus exact wanted_yes _ _ _ rfl rfl rfl); (focus rfl); (focus rfl); (focus rfl); (focus (first | exact Since.drew _ | assumption)); (focus (simp <;> omega)); (focus go_simp); intro K hK) | ((with_reducible refine wpT_xs0 ?_ ?_ ?_); (focus rfl); (focus rfl); intro K hK) | ((with_reducible refine wpT_noL ?_ ?_); (focus (first | exact wanted_no _ _ _ rfl rfl rfl | exact wanted_un _ _ _ rfl rfl rfl)); simp only [setO, List.set_cons_succ, List.set_cons_zero]) | ((with_reducible refine wpT_q1 ?_ ?_ ?_ ?_); (focus exact wanted_yes _ _ _ rfl rfl rfl); (focus rfl); (focus rfl); intro K hK) | ((with_reducible refine wpT_xs1 ?_ ?_ ?_); (focus exact wanted_yes _ _ _ rfl rfl rfl); (focus rfl); intro K hK) | ((with_reducible refine wpT_nil ?_); try dsimp only)
            | fail)
          · have hTs := hT.size
            refine (specPlayerAsk_c r A2 xs.length c2 _ _ xs t w6 rfl hbx hcapa.1 hcapa.2 (oa.slAt encReply_len).2.2 (Nat.le_refl _)).mono ?_
            rintro e w7 ⟨r3, A3, n3, c3, b3, rfl, ow, hn3, hr3, hb3, hk7⟩
            rw [hH.out] at ow hn3 hr3 hb3
            dsimp only at ow hn3 hr3 hb3
            subst n3
            subst r3
            subst b3
            have hl := hl.below hk7
            have hv := hv.below hk7
            have oa := oa.below hk7 (Nat.le_refl _)
            have hB := hB.trans (hk7.mono hB.size)
            have hT := hT.trans (hk7.mono hT.size)
            have z7 := hk7.size
            have hbb := hl
            obtain ⟨l0, l1, l2, l3, l4, l5, lf0, lf1, lf2, lf3, lf4, lf5⟩ := hbb
            have hbb := hv
            obtain ⟨v0, v1, v2, v3, vf0, vf1, vf2, vf3⟩ := hbb
            have hL := hk7
            go_wp2_with (first
              | ((with_reducible refine wpO_seg ?_); simp only [pickL, List.toList_toArray, List.getElem?_cons_succ, List.getElem?_cons_zero]) | ((with_reducible refine wpO_both ?_ ?_) <;> simp only [pickL, List.toList_toArray, List.getElem?_cons_succ, List.getElem?_cons_zero]) | ((with_reducible refine wpO_done ?_); try dsimp only) | (with_reducible refine Since.and_ ?_ ?_; (focus (repeat (first | (with_reducible exact Since.refl _) | assumption | (with_reducible refine Since.drewR ?_) | (with_reducible refine Since.alloc ?_ _) | ((with_reducible refine Since.setNew ?_ ?_ _); rotate_left; (focus (first | omega | (simp; done) | (simp; omega)))) | ((with_reducible apply Since.below); rotate_left; (focus assumption))))); intro hS) | ((with_reducible refine wpT_q0 ?_ ?_ ?_ ?_); (focus rfl); (focus rfl); (focus rfl); intro K hK) | ((with_reducible apply wpT_l); (focus rfl); (focus rfl); (focus rfl); (focus rfl); (focus (first | exact Since.drew _ | assumption)); (focus (simp <;> omega)); (focus go_simp); intro K hK) | ((with_reducible apply wpT_lw); (focus exact wanted_yes _ _ _ rfl rfl rfl); (focus rfl); (focus rfl); (focus rfl); (focus (first | exact Since.drew _ | assumption)); (focus (simp <;> omega)); (focus go_simp); intro K hK) | ((with_reducible refine wpT_xs0 ?_ ?_ ?_); (focus rfl); (focus rfl); intro K hK) | ((with_reducible refine wpT_noL ?_ ?_); (focus (first | exact wanted_no _ _ _ rfl rfl rfl | exact wanted_un _ _ _ rfl rfl rfl)); simp only [setO, List.set_cons_succ, List.set_cons_zero]) | ((with_reducible refine wpT_q1 ?_ ?_ ?_ ?_); (focus exact wanted_yes _ _ _ rfl rfl rfl); (focus rfl); (focus rfl); intro K hK) | ((with_reducible refine wpT_xs1 ?_ ?_ ?_); (focus exact wanted_yes _ _ _ rfl rfl rfl); (focus rfl); intro K hK) | ((with_reducible refine wpT_nil ?_); try dsimp only)
              | fail)
            have hf := hide (fun k hk => (ow.lt k hk).2)
            exact hide ⟨by trivial, w7.heap.size, A3, c3, _, _, _, _, _, _, _, _, _, _, _, _, _, rfl, hT.trans (((Below.refl _ _).alloc (Nat.le_refl _) _).mono hT.size), hT.size, Box6.made w7 _ _ _ _ _ _ _ _ _, (ow.mono hTs).alloc _, hide (fun k hk => Nat.ne_of_lt (hf.out k hk))⟩
          · have hA := ((Below.refl w6.heap.size w6).alloc (Nat.le_refl _) (.cells #[.int .i64 0, .int .i64 0, .int .i64 0, .int .i64 0, .int .i64 0, .slice none 0 0] 32))
            have hB := hB.trans (hA.mono hB.size)
            have hT := hT.trans (hA.mono hT.size)
            have hl := hl.below hA
            have hv := hv.below hA
            have oa := oa.below hA (Nat.le_refl _)
            have hy : Box6 (w6.alloc (.cells #[.int .i64 0, .int .i64 0, .int .i64 0, .int .i64 0, .int .i64 0, .slice none 0 0] 32)) _ _ _ _ _ _ _  := Box6.made w6 0 0 0 0 0 none 0 0 32
            have z8 := hA.size
            clear hA
            generalize w6.alloc (.cells #[.int .i64 0, .int .i64 0, .int .i64 0, .int .i64 0, .int .i64 0, .slice none 0 0] 32) = w8 at *
            have hyl := hy.lt
            have hbb := hl
            obtain ⟨l0, l1, l2, l3, l4, l5, lf0, lf1, lf2, lf3, lf4, lf5⟩ := hbb
            have hbb := hv
            obtain ⟨v0, v1, v2, v3, vf0, vf1, vf2, vf3⟩ := hbb
            have hbb := hy
            obtain ⟨y0, y1, y2, y3, y4, y5, yf0, yf1, yf2, yf3, yf4, yf5⟩ := hbb
            have hTs := hT.size
            refine (specPlayerAsk_c r A2 xs.length c2 _ _ xs t w8 rfl hbx hcapa.1 hcapa.2 (oa.slAt encReply_len).2.2 (Nat.le_refl _)).mono ?_
            rintro e w9 ⟨r3, A3, n3, c3, b3, rfl, ow, hn3, hr3, hb3, hk9⟩
            rw [hH.out] at ow hn3 hr3 hb3
            dsimp only at ow hn3 hr3 hb3
            subst n3
            subst r3
            subst b3
            have hl := hl.below hk9
            have hv := hv.below hk9
            have hy := hy.below hk9
            have oa := oa.below hk9 (Nat.le_refl _)
            have hB := hB.trans (hk9.mono hB.size)
            have hT := hT.trans (hk9.mono hT.size)
            have z9 := hk9.size
            have hbb := hl
            obtain ⟨l0, l1, l2, l3, l4, l5, lf0, lf1, lf2, lf3, lf4, lf5⟩ := hbb
            have hbb := hv
            obtain ⟨v0, v1, v2, v3, vf0, vf1, vf2, vf3⟩ := hbb
            have hbb := hy
            obtain ⟨y0, y1, y2, y3, y4, y5, yf0, yf1, yf2, yf3, yf4, yf5⟩ := hbb
            have hL := hk9
            go_wp2_with (first
              | ((with_reducible refine wpO_seg ?_); simp only [pickL, List.toList_toArray, List.getElem?_cons_succ, List.getElem?_cons_zero]) | ((with_reducible refine wpO_both ?_ ?_) <;> simp only [pickL, List.toList_toArray, List.getElem?_cons_succ, List.getElem?_cons_zero]) | ((with_reducible refine wpO_done ?_); try dsimp only) | (with_reducible refine Since.and_ ?_ ?_; (focus (repeat (first | (with_reducible exact Since.refl _) | assumption | (with_reducible refine Since.drewR ?_) | (with_reducible refine Since.alloc ?_ _) | ((with_reducible refine Since.setNew ?_ ?_ _); rotate_left; (focus (first | omega | (simp; done) | (simp; omega)))) | ((with_reducible apply Since.below); rotate_left; (focus assumption))))); intro hS) | ((with_reducible refine wpT_q0 ?_ ?_ ?_ ?_); (focus rfl); (focus rfl); (focus rfl); intro K hK) | ((with_reducible apply wpT_l); (focus rfl); (focus rfl); (focus rfl); (focus rfl); (focus (first | exact Since.drew _ | assumption)); (focus (simp <;> omega)); (focus go_simp); intro K hK) | ((with_reducible apply wpT_lw); (focus exact wanted_yes _ _ _ rfl rfl rfl); (focus rfl); (focus rfl); (focus rfl); (focus (first | exact Since.drew _ | assumption)); (focus (simp <;> omega)); (focus go_simp); intro K hK) | ((with_reducible refine wpT_xs0 ?_ ?_ ?_); (focus rfl); (focus rfl); intro K hK) | ((with_reducible refine wpT_noL ?_ ?_); (focus (first | exact wanted_no _ _ _ rfl rfl rfl | exact wanted_un _ _ _ rfl rfl rfl)); simp only [setO, List.set_cons_succ, List.set_cons_zero]) | ((with_reducible refine wpT_q1 ?_ ?_ ?_ ?_); (focus exact wanted_yes _ _ _ rfl rfl rfl); (focus rfl); (focus rfl); intro K hK) | ((with_reducible refine wpT_xs1 ?_ ?_ ?_); (focus exact wanted_yes _ _ _ rfl rfl rfl); (focus rfl); intro K hK) | ((with_reducible refine wpT_nil ?_); try dsimp only)
              | fail)
            exact hide ⟨by trivial, w6.heap.size, A3, c3, _, _, _, _, _, _, _, _, _, _, _, _, _, rfl, set6_below _ _ _ _ _ _ (by omega) hT, by omega, hy.set _ _ _ _ _ _ _ _, (ow.mono hTs).set6 _ _ _ _ _ _ (fun k hk => by have := (ow.lt k hk).1; omega), hide (fun k hk => by have := (ow.lt k hk).1; omega)⟩
        · have hA := ((Below.refl w5.heap.size w5).alloc (Nat.le_refl _) (.cells #[.int .i64 0, .int .i64 0, .int .i64 0, .int .i64 0, .int .i64 0, .slice none 0 0] 32))
          have hB := hB.trans (hA.mono hB.size)
          have hT := hT.trans (hA.mono hT.size)
          have hl := hl.below hA
          have hv := hv.below hA
          have oa := oa.below hA (Nat.le_refl _)
          have hy : Box6 (w5.alloc (.cells #[.int .i64 0, .int .i64 0, .int .i64 0, .int .i64 0, .int .i64 0, .slice none 0 0] 32)) _ _ _ _ _ _ _  := Box6.made w5 0 0 0 0 0 none 0 0 32
          have z10 := hA.size
          clear hA
          generalize w5.alloc (.cells #[.int .i64 0, .int .i64 0, .int .i64 0, .int .i64 0, .int .i64 0, .slice none 0 0] 32) = w10 at *
          have hyl := hy.lt
          have hbb := hl
          obtain ⟨l0, l1, l2, l3, l4, l5, lf0, lf1, lf2, lf3, lf4, lf5⟩ := hbb
          have hbb := hv
          obtain ⟨v0, v1, v2, v3, vf0, vf1, vf2, vf3⟩ := hbb
          have hbb := hy
          obtain ⟨y0, y1, y2, y3, y4, y5, yf0, yf1, yf2, yf3, yf4, yf5⟩ := hbb
          refine (toReq_c t w10).mono ?_
          rintro e w11 ⟨rfl, hk11⟩
          have hl := hl.below hk11
          have hv := hv.below hk11
          have hy := hy.below hk11
          have oa := oa.below hk11 (Nat.le_refl _)
          have hB := hB.trans (hk11.mono hB.size)
          have hT := hT.trans (hk11.mono hT.size)
          have z11 := hk11.size
          have hbb := hl
          obtain ⟨l0, l1, l2, l3, l4, l5, lf0, lf1, lf2, lf3, lf4, lf5⟩ := hbb
          have hbb := hv
          obtain ⟨v0, v1, v2, v3, vf0, vf1, vf2, vf3⟩ := hbb
          have hbb := hy
          obtain ⟨y0, y1, y2, y3, y4, y5, yf0, yf1, yf2, yf3, yf4, yf5⟩ := hbb
          have hL := hk11
          go_wp2_with (first
            | ((with_reducible refine wpO_seg ?_); simp only [pickL, List.toList_toArray, List.getElem?_cons_succ, List.getElem?_cons_zero]) | ((with_reducible refine wpO_both ?_ ?_) <;> simp only [pickL, List.toList_toArray, List.getElem?_cons_succ, List.getElem?_cons_zero]) | ((with_reducible refine wpO_done ?_); try dsimp only) | (with_reducible refine Since.and_ ?_ ?_; (focus (repeat (first | (with_reducible exact Since.refl _) | assumption | (with_reducible refine Since.drewR ?_) | (with_reducible refine Since.alloc ?_ _) | ((with_reducible refine Since.setNew ?_ ?_ _); rotate_left; (focus (first | omega | (simp; done) | (simp; omega)))) | ((with_reducible apply Since.below); rotate_left; (focus assumption))))); intro hS) | ((with_reducible refine wpT_q0 ?_ ?_ ?_ ?_); (focus rfl); (focus rfl); (focus rfl); intro K hK) | ((with_reducible apply wpT_l); (focus rfl); (focus rfl); (focus rfl); (focus rfl); (focus (first | exact Since.drew _ | assumption)); (focus (simp <;> omega)); (focus go_simp); intro K hK) | ((with_reducible apply wpT_lw); (focus exact wanted_yes _ _ _ rfl rfl rfl); (focus rfl); (focus rfl); (focus rfl); (focus (first | exact Since.drew _ | assumption)); (focus (simp <;> omega)); (focus go_simp); intro K hK) | ((with_reducible refine wpT_xs0 ?_ ?_ ?_); (focus rfl); (focus rfl); intro K hK) | ((with_reducible refine wpT_noL ?_ ?_); (focus (first | exact wanted_no _ _ _ rfl rfl rfl | exact wanted_un _ _ _ rfl rfl rfl)); simp only [setO, List.set_cons_succ, List.set_cons_zero]) | ((with_reducible refine wpT_q1 ?_ ?_ ?_ ?_); (focus exact wanted_yes _ _ _ rfl rfl rfl); (focus rfl); (focus rfl); intro K hK) | ((with_reducible refine wpT_xs1 ?_ ?_ ?_); (focus exact wanted_yes _ _ _ rfl rfl rfl); (focus rfl); intro K hK) | ((with_reducible refine wpT_nil ?_); try dsimp only)
            | fail)
          have hyl := hy.lt
          have hTs := hT.size
          refine (specPlayerAsk_c r A2 xs.length c2 _ _ xs t w11 rfl hbx hcapa.1 hcapa.2 (oa.slAt encReply_len).2.2 (Nat.le_refl _)).mono ?_
          rintro e w12 ⟨r3, A3, n3, c3, b3, rfl, ow, hn3, hr3, hb3, hk12⟩
          rw [hH.out] at ow hn3 hr3 hb3
          dsimp only at ow hn3 hr3 hb3
          subst n3
          subst r3
          subst b3
          have hl := hl.below hk12
          have hv := hv.below hk12
          have hy := hy.below hk12
          have oa := oa.below hk12 (Nat.le_refl _)
          have hB := hB.trans (hk12.mono hB.size)
          have hT := hT.trans (hk12.mono hT.size)
          have z12 := hk12.size
          have hbb := hl
          obtain ⟨l0, l1, l2, l3, l4, l5, lf0, lf1, lf2, lf3, lf4, lf5⟩ := hbb
          have hbb := hv
          obtain ⟨v0, v1, v2, v3, vf0, vf1, vf2, vf3⟩ := hbb
          have hbb := hy
          obtain ⟨y0, y1, y2, y3, y4, y5, yf0, yf1, yf2, yf3, yf4, yf5⟩ := hbb
          have hL := hk12
          go_wp2_with (first
            | ((with_reducible refine wpO_seg ?_); simp only [pickL, List.toList_toArray, List.getElem?_cons_succ, List.getElem?_cons_zero]) | ((with_reducible refine wpO_both ?_ ?_) <;> simp only [pickL, List.toList_toArray, List.getElem?_cons_succ, List.getElem?_cons_zero]) | ((with_reducible refine wpO_done ?_); try dsimp only) | (with_reducible refine Since.and_ ?_ ?_; (focus (repeat (first | (with_reducible exact Since.refl _) | assumption | (with_reducible refine Since.drewR ?_) | (with_reducible refine Since.alloc ?_ _) | ((with_reducible refine Since.setNew ?_ ?_ _); rotate_left; (focus (first | omega | (simp; done) | (simp; omega)))) | ((with_reducible apply Since.below); rotate_left; (focus assumption))))); intro hS) | ((with_reducible refine wpT_q0 ?_ ?_ ?_ ?_); (focus rfl); (focus rfl); (focus rfl); intro K hK) | ((with_reducible apply wpT_l); (focus rfl); (focus rfl); (focus rfl); (focus rfl); (focus (first | exact Since.drew _ | assumption)); (focus (simp <;> omega)); (focus go_simp); intro K hK) | ((with_reducible apply wpT_lw); (focus exact wanted_yes _ _ _ rfl rfl rfl); (focus rfl); (focus rfl); (focus rfl); (focus (first | exact Since.drew _ | assumption)); (focus (simp <;> omega)); (focus go_simp); intro K hK) | ((with_reducible refine wpT_xs0 ?_ ?_ ?_); (focus rfl); (focus rfl); intro K hK) | ((with_reducible refine wpT_noL ?_ ?_); (focus (first | exact wanted_no _ _ _ rfl rfl rfl | exact wanted_un _ _ _ rfl rfl rfl)); simp only [setO, List.set_cons_succ, List.set_cons_zero]) | ((with_reducible refine wpT_q1 ?_ ?_ ?_ ?_); (focus exact wanted_yes _ _ _ rfl rfl rfl); (focus rfl); (focus rfl); intro K hK) | ((with_reducible refine wpT_xs1 ?_ ?_ ?_); (focus exact wanted_yes _ _ _ rfl rfl rfl); (focus rfl); intro K hK) | ((with_reducible refine wpT_nil ?_); try dsimp only)
            | fail)
          exact hide ⟨by trivial, w5.heap.size, A3, c3, _, _, _, _, _, _, _, _, _, _, _, _, _, rfl, set6_below _ _ _ _ _ _ (by omega) hT, by omega, hy.set _ _ _ _ _ _ _ _, (ow.mono hTs).set6 _ _ _ _ _ _ (fun k hk => by have := (ow.lt k hk).1; omega), hide (fun k hk => by have := (ow.lt k hk).1; omega)⟩
      · have hA := ((Below.refl w2.heap.size w2).alloc (Nat.le_refl _) (.cells #[.int .i64 0, .int .i64 0, .int .i64 0, .int .i64 0, .int .i64 0, .slice none 0 0] 32)).drew
        have hB := hB.trans (hA.mono hB.size)
        have hT := hT.trans (hA.mono hT.size)
        have hl := hl.below hA
        have hv := hv.below hA
        have hy : Box6 (w2.alloc (.cells #[.int .i64 0, .int .i64 0, .int .i64 0, .int .i64 0, .int .i64 0, .slice none 0 0] 32)).drew _ _ _ _ _ _ _  := Box6.made w2 0 0 0 0 0 none 0 0 32
        have z13 := hA.size
        clear hA
        generalize (w2.alloc (.cells #[.int .i64 0, .int .i64 0, .int .i64 0, .int .i64 0, .int .i64 0, .slice none 0 0] 32)).drew = w13 at *
        have hyl := hy.lt
        have hbb := hl
        obtain ⟨l0, l1, l2, l3, l4, l5, lf0, lf1, lf2, lf3, lf4, lf5⟩ := hbb
        have hbb := hv
        obtain ⟨v0, v1, v2, v3, vf0, vf1, vf2, vf3⟩ := hbb
        have hbb := hy
        obtain ⟨y0, y1, y2, y3, y4, y5, yf0, yf1, yf2, yf3, yf4, yf5⟩ := hbb
        refine (toPlayer_c r A n c 0 _ xs w13 hn'.out hb (hA0.below hB (Nat.le_refl _)) hB.size).mono ?_
        rintro e w14 ⟨A2, c2, rfl, oa, hk14⟩
        have hl := hl.below hk14
        have hv := hv.below hk14
        have hy := hy.below hk14
        have hB := hB.trans (hk14.mono hB.size)
        have hT := hT.trans (hk14.mono hT.size)
        have z14 := hk14.size
        have hcapa := oa.cap
        have hbb := hl
        obtain ⟨l0, l1, l2, l3, l4, l5, lf0, lf1, lf2, lf3, lf4, lf5⟩ := hbb
        have hbb := hv
        obtain ⟨v0, v1, v2, v3, vf0, vf1, vf2, vf3⟩ := hbb
        have hbb := hy
        obtain ⟨y0, y1, y2, y3, y4, y5, yf0, yf1, yf2, yf3, yf4, yf5⟩ := hbb
        have hL := hk14
        go_wp2_with (first
          | ((with_reducible refine wpO_seg ?_); simp only [pickL, List.toList_toArray, List.getElem?_cons_succ, List.getElem?_cons_zero]) | ((with_reducible refine wpO_both ?_ ?_) <;> simp only [pickL, List.toList_toArray, List.getElem?_cons_succ, List.getElem?_cons_zero]) | ((with_reducible refine wpO_done ?_); try dsimp only) | (with_reducible refine Since.and_ ?_ ?_; (focus (repeat (first | (with_reducible exact Since.refl _) | assumption | (with_reducible refine Since.drewR ?_) | (with_reducible refine Since.alloc ?_ _) | ((with_reducible refine Since.setNew ?_ ?_ _); rotate_left; (focus (first | omega | (simp; done) | (simp; omega)))) | ((with_reducible apply Since.below); rotate_left; (focus assumption))))); intro hS) | ((with_reducible refine wpT_q0 ?_ ?_ ?_ ?_); (focus rfl); (focus rfl); (focus rfl); intro K hK) | ((with_reducible apply wpT_l); (focus rfl); (focus rfl); (focus rfl); (focus rfl); (focus (first | exact Since.drew _ | assumption)); (focus (simp <;> omega)); (focus go_simp); intro K hK) | ((with_reducible apply wpT_lw); (focus exact wanted_yes _ _ _ rfl rfl rfl); (focus rfl); (focus rfl); (focus rfl); (focus (first | exact Since.drew _ | assumption)); (focus (simp <;> omega)); (focus go_simp); intro K hK) | ((with_reducible refine wpT_xs0 ?_ ?_ ?_); (focus rfl); (focus rfl); intro K hK) | ((with_reducible refine wpT_noL ?_ ?_); (focus (first | exact wanted_no _ _ _ rfl rfl rfl | exact wanted_un _ _ _ rfl rfl rfl)); simp only [setO, List.set_cons_succ, List.set_cons_zero]) | ((with_reducible refine wpT_q1 ?_ ?_ ?_ ?_); (focus exact wanted_yes _ _ _ rfl rfl rfl); (focus rfl); (focus rfl); intro K hK) | ((with_reducible refine wpT_xs1 ?_ ?_ ?_); (focus exact wanted_yes _ _ _ rfl rfl rfl); (focus rfl); intro K hK) | ((with_reducible refine wpT_nil ?_); try dsimp only)
          | fail)
        have hyl := hy.lt
        refine (toReq_c t w14).mono ?_
        rintro e w15 ⟨rfl, hk15⟩
        have hl := hl.below hk15
        have hv := hv.below hk15
        have hy := hy.below hk15
        have oa := oa.below hk15 (Nat.le_refl _)
        have hB := hB.trans (hk15.mono hB.size)
        have hT := hT.trans (hk15.mono hT.size)
        have z15 := hk15.size
        have hbb := hl
        obtain ⟨l0, l1, l2, l3, l4, l5, lf0, lf1, lf2, lf3, lf4, lf5⟩ := hbb
        have hbb := hv
        obtain ⟨v0, v1, v2, v3, vf0, vf1, vf2, vf3⟩ := hbb
        have hbb := hy
        obtain ⟨y0, y1, y2, y3, y4, y5, yf0, yf1, yf2, yf3, yf4, yf5⟩ := hbb
        have hL := hk15
        go_wp2_with (first
          | ((with_reducible refine wpO_seg ?_); simp only [pickL, List.toList_toArray, List.getElem?_cons_succ, List.getElem?_cons_zero]) | ((with_reducible refine wpO_both ?_ ?_) <;> simp only [pickL, List.toList_toArray, List.getElem?_cons_succ, List.getElem?_cons_zero]) | ((with_reducible refine wpO_done ?_); try dsimp only) | (with_reducible refine Since.and_ ?_ ?_; (focus (repeat (first | (with_reducible exact Since.refl _) | assumption | (with_reducible refine Since.drewR ?_) | (with_reducible refine Since.alloc ?_ _) | ((with_reducible refine Since.setNew ?_ ?_ _); rotate_left; (focus (first | omega | (simp; done) | (simp; omega)))) | ((with_reducible apply Since.below); rotate_left; (focus assumption))))); intro hS) | ((with_reducible refine wpT_q0 ?_ ?_ ?_ ?_); (focus rfl); (focus rfl); (focus rfl); intro K hK) | ((with_reducible apply wpT_l); (focus rfl); (focus rfl); (focus rfl); (focus rfl); (focus (first | exact Since.drew _ | assumption)); (focus (simp <;> omega)); (focus go_simp); intro K hK) | ((with_reducible apply wpT_lw); (focus exact wanted_yes _ _ _ rfl rfl rfl); (focus rfl); (focus rfl); (focus rfl); (focus (first | exact Since.drew _ | assumption)); (focus (simp <;> omega)); (focus go_simp); intro K hK) | ((with_reducible refine wpT_xs0 ?_ ?_ ?_); (focus rfl); (focus rfl); intro K hK) | ((with_reducible refine wpT_noL ?_ ?_); (focus (first | exact wanted_no _ _ _ rfl rfl rfl | exact wanted_un _ _ _ rfl rfl rfl)); simp only [setO, List.set_cons_succ, List.set_cons_zero]) | ((with_reducible refine wpT_q1 ?_ ?_ ?_ ?_); (focus exact wanted_yes _ _ _ rfl rfl rfl); (focus rfl); (focus rfl); intro K hK) | ((with_reducible refine wpT_xs1 ?_ ?_ ?_); (focus exact wanted_yes _ _ _ rfl rfl rfl); (focus rfl); intro K hK) | ((with_reducible refine wpT_nil ?_); try dsimp only)
          | fail)
        have hyl := hy.lt
        have hTs := hT.size
        refine (specPlayerAsk_c r A2 xs.length c2 _ _ xs t w15 rfl hbx hcapa.1 hcapa.2 (oa.slAt encReply_len).2.2 (Nat.le_refl _)).mono ?_
        rintro e w16 ⟨r3, A3, n3, c3, b3, rfl, ow, hn3, hr3, hb3, hk16⟩
        rw [hH.out] at ow hn3 hr3 hb3
        dsimp only at ow hn3 hr3 hb3
        subst n3
        subst r3
        subst b3
        have hl := hl.below hk16
        have hv := hv.below hk16
        have hy := hy.below hk16
        have oa := oa.below hk16 (Nat.le_refl _)
        have hB := hB.trans (hk16.mono hB.size)
        have hT := hT.trans (hk16.mono hT.size)
        have z16 := hk16.size
        have hbb := hl
        obtain ⟨l0, l1, l2, l3, l4, l5, lf0, lf1, lf2, lf3, lf4, lf5⟩ := hbb
        have hbb := hv
        obtain ⟨v0, v1, v2, v3, vf0, vf1, vf2, vf3⟩ := hbb
        have hbb := hy
        obtain ⟨y0, y1, y2, y3, y4, y5, yf0, yf1, yf2, yf3, yf4, yf5⟩ := hbb
        have hL := hk16
        go_wp2_with (first
          | ((with_reducible refine wpO_seg ?_); simp only [pickL, List.toList_toArray, List.getElem?_cons_succ, List.getElem?_cons_zero]) | ((with_reducible refine wpO_both ?_ ?_) <;> simp only [pickL, List.toList_toArray, List.getElem?_cons_succ, List.getElem?_cons_zero]) | ((with_reducible refine wpO_done ?_); try dsimp only) | (with_reducible refine Since.and_ ?_ ?_; (focus (repeat (first | (with_reducible exact Since.refl _) | assumption | (with_reducible refine Since.drewR ?_) | (with_reducible refine Since.alloc ?_ _) | ((with_reducible refine Since.setNew ?_ ?_ _); rotate_left; (focus (first | omega | (simp; done) | (simp; omega)))) | ((with_reducible apply Since.below); rotate_left; (focus assumption))))); intro hS) | ((with_reducible refine wpT_q0 ?_ ?_ ?_ ?_); (focus rfl); (focus rfl); (focus rfl); intro K hK) | ((with_reducible apply wpT_l); (focus rfl); (focus rfl); (focus rfl); (focus rfl); (focus (first | exact Since.drew _ | assumption)); (focus (simp <;> omega)); (focus go_simp); intro K hK) | ((with_reducible apply wpT_lw); (focus exact wanted_yes _ _ _ rfl rfl rfl); (focus rfl); (focus rfl); (focus rfl); (focus (first | exact Since.drew _ | assumption)); (focus (simp <;> omega)); (focus go_simp); intro K hK) | ((with_reducible refine wpT_xs0 ?_ ?_ ?_); (focus rfl); (focus rfl); intro K hK) | ((with_reducible refine wpT_noL ?_ ?_); (focus (first | exact wanted_no _ _ _ rfl rfl rfl | exact wanted_un _ _ _ rfl rfl rfl)); simp only [setO, List.set_cons_succ, List.set_cons_zero]) | ((with_reducible refine wpT_q1 ?_ ?_ ?_ ?_); (focus exact wanted_yes _ _ _ rfl rfl rfl); (focus rfl); (focus rfl); intro K hK) | ((with_reducible refine wpT_xs1 ?_ ?_ ?_); (focus exact wanted_yes _ _ _ rfl rfl rfl); (focus rfl); intro K hK) | ((with_reducible refine wpT_nil ?_); try dsimp only)
          | fail)
        exact hide ⟨by trivial, w2.heap.size, A3, c3, _, _, _, _, _, _, _, _, _, _, _, _, _, rfl, set6_below _ _ _ _ _ _ (by omega) hT, by omega, hy.set _ _ _ _ _ _ _ _, (ow.mono hTs).set6 _ _ _ _ _ _ (fun k hk => by have := (ow.lt k hk).1; omega), hide (fun k hk => by have := (ow.lt k hk).1; omega)⟩
    rintro e a' w17 hQ
    obtain ⟨rfl, b6, A3, c3, d16, d17, d18, d19, d20, d21, d22, d23, d24, d25, d26, d27, d28, rfl, hk17, hb6, hqp, ow, hnew⟩ := hQ.out
    have hl := hl.below hk17
    have hv := hv.below hk17
    have hB := hB.trans (hk17.mono hB.size)
    have z17 := hk17.size
    have hp := hqp
    have hlop := hp.lt
    have kw := hide (ow.lt)
    clear hT hqp
    have hbb := hl
    obtain ⟨l0, l1, l2, l3, l4, l5, lf0, lf1, lf2, lf3, lf4, lf5⟩ := hbb
    have hbb := hv
    obtain ⟨v0, v1, v2, v3, vf0, vf1, vf2, vf3⟩ := hbb
    have hbb := hp
    obtain ⟨p0, p1, p2, p3, p4, p5, pf0, pf1, pf2, pf3, pf4, pf5⟩ := hbb
    go_wp2_with fail
    refine (toPlayer_c r A n c 0 _ xs w17 hn'.out hb (hA0.below hB (Nat.le_refl _)) hB.size).mono ?_
    rintro e w18 ⟨A4, c4, rfl, ox, hk18⟩
    have hl := hl.below hk18
    have hv := hv.below hk18
    have hp := hp.below hk18
    have ow := ow.below hk18 (Nat.le_refl _)
    have hB := hB.trans (hk18.mono hB.size)
    have z18 := hk18.size
    have hcapx := ox.cap
    have kx := hide (ox.lt)
    have hA := ((Below.refl w18.heap.size w18).alloc (Nat.le_refl _) (.cells #[.int .i64 r.1, .int .i64 r.2.1, .int .i64 r.2.2.1, .int .i64 r.2.2.2.1, .int .i64 r.2.2.2.2, .slice A4 xs.length c4] 32))
    have hB := hB.trans (hA.mono hB.size)
    have hl := hl.below hA
    have hv := hv.below hA
    have hp := hp.below hA
    have ow := ow.below hA (Nat.le_refl _)
    have ox := ox.below hA (Nat.le_refl _)
    have hx : Box6 (w18.alloc (.cells #[.int .i64 r.1, .int .i64 r.2.1, .int .i64 r.2.2.1, .int .i64 r.2.2.2.1, .int .i64 r.2.2.2.2, .slice A4 xs.length c4] 32)) _ _ _ _ _ _ _  := Box6.made w18 r.1 r.2.1 r.2.2.1 r.2.2.2.1 r.2.2.2.2 A4 xs.length c4 32
    have hbb := hl
    obtain ⟨l0, l1, l2, l3, l4, l5, lf0, lf1, lf2, lf3, lf4, lf5⟩ := hbb
    have hbb := hv
    obtain ⟨v0, v1, v2, v3, vf0, vf1, vf2, vf3⟩ := hbb
    have hbb := hp
    obtain ⟨p0, p1, p2, p3, p4, p5, pf0, pf1, pf2, pf3, pf4, pf5⟩ := hbb
    have hbb := hx
    obtain ⟨x0, x1, x2, x3, x4, x5, xf0, xf1, xf2, xf3, xf4, xf5⟩ := hbb
    go_wp2
    have z19 := hA.size
    clear hA
    generalize w18.alloc (.cells #[.int .i64 r.1, .int .i64 r.2.1, .int .i64 r.2.2.1, .int .i64 r.2.2.2.1, .int .i64 r.2.2.2.2, .slice A4 xs.length c4] 32) = w19 at *
    have hll := hl.lt
    have hvl := hv.lt
    have hT := Below.refl w19.heap.size w19
    have hxl := hx.lt
    refine Code.wp_mono (Q := fun e a' w' => Hid (e = Exit.normal ∧ ∃ (b9 : Nat) (A5 : Option Addr) (c5 : Nat) (d16 d17 d18 d19 d20 d21 d22 d23 d24 d25 d26 d27 d28 d29 d30 d31 d32 d33 d34 d35 d36 d37 : Value), a' = (⟨#[.agg #[.int .i64 r.1, .int .i64 r.2.1, .int .i64 r.2.2.1, .int .i64 r.2.2.2.1, .int .i64 r.2.2.2.2, .slice A n c], .agg #[.int .i64 t.1, .int .i64 t.2.1, .int .i64 t.2.2.1, .int .i64 t.2.2.2.1, .int .i64 t.2.2.2.2], .pointer (some ⟨w.heap.size, 0, none⟩), .pointer (some ⟨w.heap.size + 1, 0, none⟩), .bool false, .int .i64 (1048576 - (n : Int)), .pointer (some ⟨b6, 0, none⟩), .bool HB, .pointer (some ⟨w18.heap.size, 0, none⟩), .pointer (some ⟨b9, 0, none⟩), .bool HB, undef, undef, undef, undef, undef, d16, d17, d18, d19, d20, d21, d22, d23, d24, d25, d26, d27, d28, d29, d30, d31, d32, d33, d34, d35, d36, d37, undef, undef, undef, undef, undef, undef, undef, undef, undef, undef, undef, undef, undef, undef, undef, undef, undef, undef, undef, undef, undef, undef, undef, undef, undef, undef, undef, undef, undef, undef, undef, undef, undef, undef, undef, undef, undef, undef, undef, undef, undef, undef, undef, undef, undef, undef, undef, undef, undef, undef, undef, undef, undef, undef, undef, undef, undef, undef, undef, undef, undef, undef, undef, undef, undef, undef], []⟩ : Act) ∧ Below w19.heap.size w19 w' ∧ w19.heap.size ≤ b9 ∧ Box6 w' b9 (.int .i64 HR.1) (.int .i64 HR.2.1) (.int .i64 HR.2.2.1) (.int .i64 HR.2.2.2.1) (.int .i64 HR.2.2.2.2) (.slice A5 HX.length c5) ∧ Own encReply 4 37 w' w19.heap.size (.slice A5 HX.length c5) HX ∧ Hid (∀ k, (Value.slice A5 HX.length c5).ownBlock = some k → k ≠ b9))) ?_ ?_
    rotate_left
    · refine wp_region_O (Since _) [] [] [32, 33] (Ord.seg [0, 1] (Ord.both 2 7 (Ord.seg [] (Ord.both 3 7 (Ord.seg [4, 5, 6, 7, 8, 9] Ord.done) (Ord.seg [3, 4, 5, 6, 8, 9] Ord.done))) (Ord.seg [2, 3, 4, 5, 6, 8, 9] Ord.done))) (by kernel_rfl) (by kernel_rfl) (by kernel_rfl) (Since.drew _) ?_
      go_wp2_with (first
        | ((with_reducible refine wpO_seg ?_); simp only [pickL, List.toList_toArray, List.getElem?_cons_succ, List.getElem?_cons_zero]) | ((with_reducible refine wpO_both ?_ ?_) <;> simp only [pickL, List.toList_toArray, List.getElem?_cons_succ, List.getElem?_cons_zero]) | ((with_reducible refine wpO_done ?_); try dsimp only) | (with_reducible refine Since.and_ ?_ ?_; (focus (repeat (first | (with_reducible exact Since.refl _) | assumption | (with_reducible refine Since.drewR ?_) | (with_reducible refine Since.alloc ?_ _) | ((with_reducible refine Since.setNew ?_ ?_ _); rotate_left; (focus (first | omega | (simp; done) | (simp; omega)))) | ((with_reducible apply Since.below); rotate_left; (focus assumption))))); intro hS) | ((with_reducible refine wpT_q0 ?_ ?_ ?_ ?_); (focus rfl); (focus rfl); (focus rfl); intro K hK) | ((with_reducible apply wpT_l); (focus rfl); (focus rfl); (focus rfl); (focus rfl); (focus (first | exact Since.drew _ | assumption)); (focus (simp <;> omega)); (focus go_simp); intro K hK) | ((with_reducible apply wpT_lw); (focus exact wanted_yes _ _ _ rfl rfl rfl); (focus rfl); (focus rfl); (focus rfl); (focus (first | exact Since.drew _ | assumption)); (focus (simp <;> omega)); (focus go_simp); intro K hK) | ((with_reducible refine wpT_xs0 ?_ ?_ ?_); (focus rfl); (focus rfl); intro K hK) | ((with_reducible refine wpT_noL ?_ ?_); (focus (first | exact wanted_no _ _ _ rfl rfl rfl | exact wanted_un _ _ _ rfl rfl rfl)); simp only [setO, List.set_cons_succ, List.set_cons_zero]) | ((with_reducible refine wpT_q1 ?_ ?_ ?_ ?_); (focus exact wanted_yes _ _ _ rfl rfl rfl); (focus rfl); (focus rfl); intro K hK) | ((with_reducible refine wpT_xs1 ?_ ?_ ?_); (focus exact wanted_yes _ _ _ rfl rfl rfl); (focus rfl); intro K hK) | ((with_reducible refine wpT_nil ?_); try dsimp only)
        | fail)
      · have hD := (Below.refl w19.heap.size w19).drew
        have hS : Since w19 w19.drew := Since.drew _
        have hl := hl.below hD
        have hv := hv.below hD
        have hp := hp.below hD
        have hx := hx.below hD
        have ow := ow.below hD (Nat.le_refl _)
        have ox := ox.below hD (Nat.le_refl _)
        have hB := hB.trans (hD.mono hB.size)
        have hT := hT.trans (hD.mono hT.size)
        have z21 := hD.size
        generalize w19.drew = w21 at *
        refine (toReq_c t w21).mono ?_
        rintro e w22 ⟨rfl, hk22⟩
        have hl := hl.below hk22
        have hv := hv.below hk22
        have hp := hp.below hk22
        have hx := hx.below hk22
        have ow := ow.below hk22 (Nat.le_refl _)
        have ox := ox.below hk22 (Nat.le_refl _)
        have hB := hB.trans (hk22.mono hB.size)
        have hT := hT.trans (hk22.mono hT.size)
        have z22 := hk22.size
        have hbb := hl
        obtain ⟨l0, l1, l2, l3, l4, l5, lf0, lf1, lf2, lf3, lf4, lf5⟩ := hbb
        have hbb := hv
        obtain ⟨v0, v1, v2, v3, vf0, vf1, vf2, vf3⟩ := hbb
        have hbb := hp
        obtain ⟨p0, p1, p2, p3, p4, p5, pf0, pf1, pf2, pf3, pf4, pf5⟩ := hbb
        have hbb := hx
        obtain ⟨x0, x1, x2, x3, x4, x5, xf0, xf1, xf2, xf3, xf4, xf5⟩ := hbb
        have hL := hk22
        go_wp2_with (first
          | ((with_reducible refine wpO_seg ?_); simp only [pickL, List.toList_toArray, List.getElem?_cons_succ, List.getElem?_cons_zero]) | ((with_reducible refine wpO_both ?_ ?_) <;> simp only [pickL, List.toList_toArray, List.getElem?_cons_succ, List.getElem?_cons_zero]) | ((with_reducible refine wpO_done ?_); try dsimp only) | (with_reducible refine Since.and_ ?_ ?_; (focus (repeat (first | (with_reducible exact Since.refl _) | assumption | (with_reducible refine Since.drewR ?_) | (with_reducible refine Since.alloc ?_ _) | ((with_reducible refine Since.setNew ?_ ?_ _); rotate_left; (focus (first | omega | (simp; done) | (simp; omega)))) | ((with_reducible apply Since.below); rotate_left; (focus assumption))))); intro hS) | ((with_reducible refine wpT_q0 ?_ ?_ ?_ ?_); (focus rfl); (focus rfl); (focus rfl); intro K hK) | ((with_reducible apply wpT_l); (focus rfl); (focus rfl); (focus rfl); (focus rfl); (focus (first | exact Since.drew _ | assumption)); (focus (simp <;> omega)); (focus go_simp); intro K hK) | ((with_reducible apply wpT_lw); (focus exact wanted_yes _ _ _ rfl rfl rfl); (focus rfl); (focus rfl); (focus rfl); (focus (first | exact Since.drew _ | assumption)); (focus (simp <;> omega)); (focus go_simp); intro K hK) | ((with_reducible refine wpT_xs0 ?_ ?_ ?_); (focus rfl); (focus rfl); intro K hK) | ((with_reducible refine wpT_noL ?_ ?_); (focus (first | exact wanted_no _ _ _ rfl rfl rfl | exact wanted_un _ _ _ rfl rfl rfl)); simp only [setO, List.set_cons_succ, List.set_cons_zero]) | ((with_reducible refine wpT_q1 ?_ ?_ ?_ ?_); (focus exact wanted_yes _ _ _ rfl rfl rfl); (focus rfl); (focus rfl); intro K hK) | ((with_reducible refine wpT_xs1 ?_ ?_ ?_); (focus exact wanted_yes _ _ _ rfl rfl rfl); (focus rfl); intro K hK) | ((with_reducible refine wpT_nil ?_); try dsimp only)
          | fail)
        · have hTs := hT.size
          refine (PlayerAsk_c r A4 xs.length c4 _ _ xs t w22 rfl hbx hcapx.1 hcapx.2 (ox.slAt encReply_len).2.2 (Nat.le_refl _)).mono ?_
          rintro e w23 ⟨r5, A5, n5, c5, b5, rfl, og, hn5, hr5, hb5, hk23⟩
          rw [hH.out] at og hn5 hr5 hb5
          dsimp only at og hn5 hr5 hb5
          subst n5
          subst r5
          subst b5
          have hl := hl.below hk23
          have hv := hv.below hk23
          have hp := hp.below hk23
          have hx := hx.below hk23
          have ow := ow.below hk23 (Nat.le_refl _)
          have ox := ox.below hk23 (Nat.le_refl _)
          have hB := hB.trans (hk23.mono hB.size)
          have hT := hT.trans (hk23.mono hT.size)
          have z23 := hk23.size
          have hbb := hl
          obtain ⟨l0, l1, l2, l3, l4, l5, lf0, lf1, lf2, lf3, lf4, lf5⟩ := hbb
          have hbb := hv
          obtain ⟨v0, v1, v2, v3, vf0, vf1, vf2, vf3⟩ := hbb
          have hbb := hp
          obtain ⟨p0, p1, p2, p3, p4, p5, pf0, pf1, pf2, pf3, pf4, pf5⟩ := hbb
          have hbb := hx
          obtain ⟨x0, x1, x2, x3, x4, x5, xf0, xf1, xf2, xf3, xf4, xf5⟩ := hbb
          have hL := hk23
          go_wp2_with (first
            | ((with_reducible refine wpO_seg ?_); simp only [pickL, List.toList_toArray, List.getElem?_cons_succ, List.getElem?_cons_zero]) | ((with_reducible refine wpO_both ?_ ?_) <;> simp only [pickL, List.toList_toArray, List.getElem?_cons_succ, List.getElem?_cons_zero]) | ((with_reducible refine wpO_done ?_); try dsimp only) | (with_reducible refine Since.and_ ?_ ?_; (focus (repeat (first | (with_reducible exact Since.refl _) | assumption | (with_reducible refine Since.drewR ?_) | (with_reducible refine Since.alloc ?_ _) | ((with_reducible refine Since.setNew ?_ ?_ _); rotate_left; (focus (first | omega | (simp; done) | (simp; omega)))) | ((with_reducible apply Since.below); rotate_left; (focus assumption))))); intro hS) | ((with_reducible refine wpT_q0 ?_ ?_ ?_ ?_); (focus rfl); (focus rfl); (focus rfl); intro K hK) | ((with_reducible apply wpT_l); (focus rfl); (focus rfl); (focus rfl); (focus rfl); (focus (first | exact Since.drew _ | assumption)); (focus (simp <;> omega)); (focus go_simp); intro K hK) | ((with_reducible apply wpT_lw); (focus exact wanted_yes _ _ _ rfl rfl rfl); (focus rfl); (focus rfl); (focus rfl); (focus (first | exact Since.drew _ | assumption)); (focus (simp <;> omega)); (focus go_simp); intro K hK) | ((with_reducible refine wpT_xs0 ?_ ?_ ?_); (focus rfl); (focus rfl); intro K hK) | ((with_reducible refine wpT_noL ?_ ?_); (focus (first | exact wanted_no _ _ _ rfl rfl rfl | exact wanted_un _ _ _ rfl rfl rfl)); simp only [setO, List.set_cons_succ, List.set_cons_zero]) | ((with_reducible refine wpT_q1 ?_ ?_ ?_ ?_); (focus exact wanted_yes _ _ _ rfl rfl rfl); (focus rfl); (focus rfl); intro K hK) | ((with_reducible refine wpT_xs1 ?_ ?_ ?_); (focus exact wanted_yes _ _ _ rfl rfl rfl); (focus rfl); intro K hK) | ((with_reducible refine wpT_nil ?_); try dsimp only)
            | fail)
          have hf := hide (fun k hk => (og.lt k hk).2)
          exact hide ⟨by trivial, w23.heap.size, A5, c5, _, _, _, _, _, _, _, _, _, _, _, _, _, _, _, _, _, _, _, _, _, _, rfl, hT.trans (((Below.refl _ _).alloc (Nat.le_refl _) _).mono hT.size), hT.size, Box6.made w23 _ _ _ _ _ _ _ _ _, (og.mono hTs).alloc _, hide (fun k hk => Nat.ne_of_lt (hf.out k hk))⟩
        · have hA := ((Below.refl w22.heap.size w22).alloc (Nat.le_refl _) (.cells #[.int .i64 0, .int .i64 0, .int .i64 0, .int .i64 0, .int .i64 0, .slice none 0 0] 32))
          have hB := hB.trans (hA.mono hB.size)
          have hT := hT.trans (hA.mono hT.size)
          have hl := hl.below hA
          have hv := hv.below hA
          have hp := hp.below hA
          have hx := hx.below hA
          have ow := ow.below hA (Nat.le_refl _)
          have ox := ox.below hA (Nat.le_refl _)
          have hy : Box6 (w22.alloc (.cells #[.int .i64 0, .int .i64 0, .int .i64 0, .int .i64 0, .int .i64 0, .slice none 0 0] 32)) _ _ _ _ _ _ _  := Box6.made w22 0 0 0 0 0 none 0 0 32
          have z24 := hA.size
          clear hA
          generalize w22.alloc (.cells #[.int .i64 0, .int .i64 0, .int .i64 0, .int .i64 0, .int .i64 0, .slice none 0 0] 32) = w24 at *
          have hyl := hy.lt
          have hbb := hl
          obtain ⟨l0, l1, l2, l3, l4, l5, lf0, lf1, lf2, lf3, lf4, lf5⟩ := hbb
          have hbb := hv
          obtain ⟨v0, v1, v2, v3, vf0, vf1, vf2, vf3⟩ := hbb
          have hbb := hp
          obtain ⟨p0, p1, p2, p3, p4, p5, pf0, pf1, pf2, pf3, pf4, pf5⟩ := hbb
          have hbb := hx
          obtain ⟨x0, x1, x2, x3, x4, x5, xf0, xf1, xf2, xf3, xf4, xf5⟩ := hbb
          have hbb := hy
          obtain ⟨y0, y1, y2, y3, y4, y5, yf0, yf1, yf2, yf3, yf4, yf5⟩ := hbb
          have hTs := hT.size
          refine (PlayerAsk_c r A4 xs.length c4 _ _ xs t w24 rfl hbx hcapx.1 hcapx.2 (ox.slAt encReply_len).2.2 (Nat.le_refl _)).mono ?_
          rintro e w25 ⟨r5, A5, n5, c5, b5, rfl, og, hn5, hr5, hb5, hk25⟩
          rw [hH.out] at og hn5 hr5 hb5
          dsimp only at og hn5 hr5 hb5
          subst n5
          subst r5
          subst b5
          have hl := hl.below hk25
          have hv := hv.below hk25
          have hp := hp.below hk25
          have hx := hx.below hk25
          have hy := hy.below hk25
          have ow := ow.below hk25 (Nat.le_refl _)
          have ox := ox.below hk25 (Nat.le_refl _)
          have hB := hB.trans (hk25.mono hB.size)
          have hT := hT.trans (hk25.mono hT.size)
          have z25 := hk25.size
          have hbb := hl
          obtain ⟨l0, l1, l2, l3, l4, l5, lf0, lf1, lf2, lf3, lf4, lf5⟩ := hbb
          have hbb := hv
          obtain ⟨v0, v1, v2, v3, vf0, vf1, vf2, vf3⟩ := hbb
          have hbb := hp
          obtain ⟨p0, p1, p2, p3, p4, p5, pf0, pf1, pf2, pf3, pf4, pf5⟩ := hbb
          have hbb := hx
          obtain ⟨x0, x1, x2, x3, x4, x5, xf0, xf1, xf2, xf3, xf4, xf5⟩ := hbb
          have hbb := hy
          obtain ⟨y0, y1, y2, y3, y4, y5, yf0, yf1, yf2, yf3, yf4, yf5⟩ := hbb
          have hL := hk25
          go_wp2_with (first
            | ((with_reducible refine wpO_seg ?_); simp only [pickL, List.toList_toArray, List.getElem?_cons_succ, List.getElem?_cons_zero]) | ((with_reducible refine wpO_both ?_ ?_) <;> simp only [pickL, List.toList_toArray, List.getElem?_cons_succ, List.getElem?_cons_zero]) | ((with_reducible refine wpO_done ?_); try dsimp only) | (with_reducible refine Since.and_ ?_ ?_; (focus (repeat (first | (with_reducible exact Since.refl _) | assumption | (with_reducible refine Since.drewR ?_) | (with_reducible refine Since.alloc ?_ _) | ((with_reducible refine Since.setNew ?_ ?_ _); rotate_left; (focus (first | omega | (simp; done) | (simp; omega)))) | ((with_reducible apply Since.below); rotate_left; (focus assumption))))); intro hS) | ((with_reducible refine wpT_q0 ?_ ?_ ?_ ?_); (focus rfl); (focus rfl); (focus rfl); intro K hK) | ((with_reducible apply wpT_l); (focus rfl); (focus rfl); (focus rfl); (focus rfl); (focus (first | exact Since.drew _ | assumption)); (focus (simp <;> omega)); (focus go_simp); intro K hK) | ((with_reducible apply wpT_lw); (focus exact wanted_yes _ _ _ rfl rfl rfl); (focus rfl); (focus rfl); (focus rfl); (focus (first | exact Since.drew _ | assumption)); (focus (simp <;> omega)); (focus go_simp); intro K hK) | ((with_reducible refine wpT_xs0 ?_ ?_ ?_); (focus rfl); (focus rfl); intro K hK) | ((with_reducible refine wpT_noL ?_ ?_); (focus (first | exact wanted_no _ _ _ rfl rfl rfl | exact wanted_un _ _ _ rfl rfl rfl)); simp only [setO, List.set_cons_succ, List.set_cons_zero]) | ((with_reducible refine wpT_q1 ?_ ?_ ?_ ?_); (focus exact wanted_yes _ _ _ rfl rfl rfl); (focus rfl); (focus rfl); intro K hK) | ((with_reducible refine wpT_xs1 ?_ ?_ ?_); (focus exact wanted_yes _ _ _ rfl rfl rfl); (focus rfl); intro K hK) | ((with_reducible refine wpT_nil ?_); try dsimp only)
            | fail)
          exact hide ⟨by trivial, w22.heap.size, A5, c5, _, _, _, _, _, _, _, _, _, _, _, _, _, _, _, _, _, _, _, _, _, _, rfl, set6_below _ _ _ _ _ _ (by omega) hT, by omega, hy.set _ _ _ _ _ _ _ _, (og.mono hTs).set6 _ _ _ _ _ _ (fun k hk => by have := (og.lt k hk).1; omega), hide (fun k hk => by have := (og.lt k hk).1; omega)⟩
      · have hA := ((Below.refl w19.heap.size w19).alloc (Nat.le_refl _) (.cells #[.int .i64 0, .int .i64 0, .int .i64 0, .int .i64 0, .int .i64 0, .slice none 0 0] 32)).drew
        have hB := hB.trans (hA.mono hB.size)
        have hT := hT.trans (hA.mono hT.size)
        have hl := hl.below hA
        have hv := hv.below hA
        have hp := hp.below hA
        have hx := hx.below hA
        have ow := ow.below hA (Nat.le_refl _)
        have ox := ox.below hA (Nat.le_refl _)
        have hy : Box6 (w19.alloc (.cells #[.int .i64 0, .int .i64 0, .int .i64 0, .int .i64 0, .int .i64 0, .slice none 0 0] 32)).drew _ _ _ _ _ _ _  := Box6.made w19 0 0 0 0 0 none 0 0 32
        have z26 := hA.size
        clear hA
        generalize (w19.alloc (.cells #[.int .i64 0, .int .i64 0, .int .i64 0, .int .i64 0, .int .i64 0, .slice none 0 0] 32)).drew = w26 at *
        have hyl := hy.lt
        have hbb := hl
        obtain ⟨l0, l1, l2, l3, l4, l5, lf0, lf1, lf2, lf3, lf4, lf5⟩ := hbb
        have hbb := hv
        obtain ⟨v0, v1, v2, v3, vf0, vf1, vf2, vf3⟩ := hbb
        have hbb := hp
        obtain ⟨p0, p1, p2, p3, p4, p5, pf0, pf1, pf2, pf3, pf4, pf5⟩ := hbb
        have hbb := hx
        obtain ⟨x0, x1, x2, x3, x4, x5, xf0, xf1, xf2, xf3, xf4, xf5⟩ := hbb
        have hbb := hy
        obtain ⟨y0, y1, y2, y3, y4, y5, yf0, yf1, yf2, yf3, yf4, yf5⟩ := hbb
        refine (toReq_c t w26).mono ?_
        rintro e w27 ⟨rfl, hk27⟩
        have hl := hl.below hk27
        have hv := hv.below hk27
        have hp := hp.below hk27
        have hx := hx.below hk27
        have hy := hy.below hk27
        have ow := ow.below hk27 (Nat.le_refl _)
        have ox := ox.below hk27 (Nat.le_refl _)
        have hB := hB.trans (hk27.mono hB.size)
        have hT := hT.trans (hk27.mono hT.size)
        have z27 := hk27.size
        have hbb := hl
        obtain ⟨l0, l1, l2, l3, l4, l5, lf0, lf1, lf2, lf3, lf4, lf5⟩ := hbb
        have hbb := hv
        obtain ⟨v0, v1, v2, v3, vf0, vf1, vf2, vf3⟩ := hbb
        have hbb := hp
        obtain ⟨p0, p1, p2, p3, p4, p5, pf0, pf1, pf2, pf3, pf4, pf5⟩ := hbb
        have hbb := hx
        obtain ⟨x0, x1, x2, x3, x4, x5, xf0, xf1, xf2, xf3, xf4, xf5⟩ := hbb
        have hbb := hy
        obtain ⟨y0, y1, y2, y3, y4, y5, yf0, yf1, yf2, yf3, yf4, yf5⟩ := hbb
        have hL := hk27
        go_wp2_with (first
          | ((with_reducible refine wpO_seg ?_); simp only [pickL, List.toList_toArray, List.getElem?_cons_succ, List.getElem?_cons_zero]) | ((with_reducible refine wpO_both ?_ ?_) <;> simp only [pickL, List.toList_toArray, List.getElem?_cons_succ, List.getElem?_cons_zero]) | ((with_reducible refine wpO_done ?_); try dsimp only) | (with_reducible refine Since.and_ ?_ ?_; (focus (repeat (first | (with_reducible exact Since.refl _) | assumption | (with_reducible refine Since.drewR ?_) | (with_reducible refine Since.alloc ?_ _) | ((with_reducible refine Since.setNew ?_ ?_ _); rotate_left; (focus (first | omega | (simp; done) | (simp; omega)))) | ((with_reducible apply Since.below); rotate_left; (focus assumption))))); intro hS) | ((with_reducible refine wpT_q0 ?_ ?_ ?_ ?_); (focus rfl); (focus rfl); (focus rfl); intro K hK) | ((with_reducible apply wpT_l); (focus rfl); (focus rfl); (focus rfl); (focus rfl); (focus (first | exact Since.drew _ | assumption)); (focus (simp <;> omega)); (focus go_simp); intro K hK) | ((with_reducible apply wpT_lw); (focus exact wanted_yes _ _ _ rfl rfl rfl); (focus rfl); (focus rfl); (focus rfl); (focus (first | exact Since.drew _ | assumption)); (focus (simp <;> omega)); (focus go_simp); intro K hK) | ((with_reducible refine wpT_xs0 ?_ ?_ ?_); (focus rfl); (focus rfl); intro K hK) | ((with_reducible refine wpT_noL ?_ ?_); (focus (first | exact wanted_no _ _ _ rfl rfl rfl | exact wanted_un _ _ _ rfl rfl rfl)); simp only [setO, List.set_cons_succ, List.set_cons_zero]) | ((with_reducible refine wpT_q1 ?_ ?_ ?_ ?_); (focus exact wanted_yes _ _ _ rfl rfl rfl); (focus rfl); (focus rfl); intro K hK) | ((with_reducible refine wpT_xs1 ?_ ?_ ?_); (focus exact wanted_yes _ _ _ rfl rfl rfl); (focus rfl); intro K hK) | ((with_reducible refine wpT_nil ?_); try dsimp only)
          | fail)
        have hyl := hy.lt
        have hTs := hT.size
        refine (PlayerAsk_c r A4 xs.length c4 _ _ xs t w27 rfl hbx hcapx.1 hcapx.2 (ox.slAt encReply_len).2.2 (Nat.le_refl _)).mono ?_
        rintro e w28 ⟨r5, A5, n5, c5, b5, rfl, og, hn5, hr5, hb5, hk28⟩
        rw [hH.out] at og hn5 hr5 hb5
        dsimp only at og hn5 hr5 hb5
        subst n5
        subst r5
        subst b5
        have hl := hl.below hk28
        have hv := hv.below hk28
        have hp := hp.below hk28
        have hx := hx.below hk28
        have hy := hy.below hk28
        have ow := ow.below hk28 (Nat.le_refl _)
        have ox := ox.below hk28 (Nat.le_refl _)
        have hB := hB.trans (hk28.mono hB.size)
        have hT := hT.trans (hk28.mono hT.size)
        have z28 := hk28.size
        have hbb := hl
        obtain ⟨l0, l1, l2, l3, l4, l5, lf0, lf1, lf2, lf3, lf4, lf5⟩ := hbb
        have hbb := hv
        obtain ⟨v0, v1, v2, v3, vf0, vf1, vf2, vf3⟩ := hbb
        have hbb := hp
        obtain ⟨p0, p1, p2, p3, p4, p5, pf0, pf1, pf2, pf3, pf4, pf5⟩ := hbb
        have hbb := hx
        obtain ⟨x0, x1, x2, x3, x4, x5, xf0, xf1, xf2, xf3, xf4, xf5⟩ := hbb
        have hbb := hy
        obtain ⟨y0, y1, y2, y3, y4, y5, yf0, yf1, yf2, yf3, yf4, yf5⟩ := hbb
        have hL := hk28
        go_wp2_with (first
          | ((with_reducible refine wpO_seg ?_); simp only [pickL, List.toList_toArray, List.getElem?_cons_succ, List.getElem?_cons_zero]) | ((with_reducible refine wpO_both ?_ ?_) <;> simp only [pickL, List.toList_toArray, List.getElem?_cons_succ, List.getElem?_cons_zero]) | ((with_reducible refine wpO_done ?_); try dsimp only) | (with_reducible refine Since.and_ ?_ ?_; (focus (repeat (first | (with_reducible exact Since.refl _) | assumption | (with_reducible refine Since.drewR ?_) | (with_reducible refine Since.alloc ?_ _) | ((with_reducible refine Since.setNew ?_ ?_ _); rotate_left; (focus (first | omega | (simp; done) | (simp; omega)))) | ((with_reducible apply Since.below); rotate_left; (focus assumption))))); intro hS) | ((with_reducible refine wpT_q0 ?_ ?_ ?_ ?_); (focus rfl); (focus rfl); (focus rfl); intro K hK) | ((with_reducible apply wpT_l); (focus rfl); (focus rfl); (focus rfl); (focus rfl); (focus (first | exact Since.drew _ | assumption)); (focus (simp <;> omega)); (focus go_simp); intro K hK) | ((with_reducible apply wpT_lw); (focus exact wanted_yes _ _ _ rfl rfl rfl); (focus rfl); (focus rfl); (focus rfl); (focus (first | exact Since.drew _ | assumption)); (focus (simp <;> omega)); (focus go_simp); intro K hK) | ((with_reducible refine wpT_xs0 ?_ ?_ ?_); (focus rfl); (focus rfl); intro K hK) | ((with_reducible refine wpT_noL ?_ ?_); (focus (first | exact wanted_no _ _ _ rfl rfl rfl | exact wanted_un _ _ _ rfl rfl rfl)); simp only [setO, List.set_cons_succ, List.set_cons_zero]) | ((with_reducible refine wpT_q1 ?_ ?_ ?_ ?_); (focus exact wanted_yes _ _ _ rfl rfl rfl); (focus rfl); (focus rfl); intro K hK) | ((with_reducible refine wpT_xs1 ?_ ?_ ?_); (focus exact wanted_yes _ _ _ rfl rfl rfl); (focus rfl); intro K hK) | ((with_reducible refine wpT_nil ?_); try dsimp only)
          | fail)
        exact hide ⟨by trivial, w19.heap.size, A5, c5, _, _, _, _, _, _, _, _, _, _, _, _, _, _, _, _, _, _, _, _, _, _, rfl, set6_below _ _ _ _ _ _ (by omega) hT, by omega, hy.set _ _ _ _ _ _ _ _, (og.mono hTs).set6 _ _ _ _ _ _ (fun k hk => by have := (og.lt k hk).1; omega), hide (fun k hk => by have := (og.lt k hk).1; omega)⟩
    rintro e a' w29 hQ
    obtain ⟨rfl, b9, A5, c5, d16, d17, d18, d19, d20, d21, d22, d23, d24, d25, d26, d27, d28, d29, d30, d31, d32, d33, d34, d35, d36, d37, rfl, hk29, hb9, hqg, og, hneg⟩ := hQ.out
    have hl := hl.below hk29
    have hv := hv.below hk29
    have hp := hp.below hk29
    have hx := hx.below hk29
    have ow := ow.below hk29 (Nat.le_refl _)
    have ox := ox.below hk29 (Nat.le_refl _)
    have hB := hB.trans (hk29.mono hB.size)
    have z29 := hk29.size
    have hg := hqg
    have hlog := hg.lt
    have kg := hide (og.lt)
    clear hT hqg
    have hbb := hl
    obtain ⟨l0, l1, l2, l3, l4, l5, lf0, lf1, lf2, lf3, lf4, lf5⟩ := hbb
    have hbb := hv
    obtain ⟨v0, v1, v2, v3, vf0, vf1, vf2, vf3⟩ := hbb
    have hbb := hp
    obtain ⟨p0, p1, p2, p3, p4, p5, pf0, pf1, pf2, pf3, pf4, pf5⟩ := hbb
    have hbb := hx
    obtain ⟨x0, x1, x2, x3, x4, x5, xf0, xf1, xf2, xf3, xf4, xf5⟩ := hbb
    have hbb := hg
    obtain ⟨g0, g1, g2, g3, g4, g5, gf0, gf1, gf2, gf3, gf4, gf5⟩ := hbb
    go_wp2_with fail
    refine (eqSameP_c og ow hlen).mono ?_
    rintro e w30 ⟨rfl, hk30⟩
    have hl := hl.below hk30
    have hv := hv.below hk30
    have hp := hp.below hk30
    have hx := hx.below hk30
    have hg := hg.below hk30
    have ow := ow.below hk30 (Nat.le_refl _)
    have ox := ox.below hk30 (Nat.le_refl _)
    have og := og.below hk30 (Nat.le_refl _)
    have hB := hB.trans (hk30.mono hB.size)
    have z30 := hk30.size
    have hbb := hl
    obtain ⟨l0, l1, l2, l3, l4, l5, lf0, lf1, lf2, lf3, lf4, lf5⟩ := hbb
    have hbb := hv
    obtain ⟨v0, v1, v2, v3, vf0, vf1, vf2, vf3⟩ := hbb
    have hbb := hp
    obtain ⟨p0, p1, p2, p3, p4, p5, pf0, pf1, pf2, pf3, pf4, pf5⟩ := hbb
    have hbb := hx
    obtain ⟨x0, x1, x2, x3, x4, x5, xf0, xf1, xf2, xf3, xf4, xf5⟩ := hbb
    have hbb := hg
    obtain ⟨g0, g1, g2, g3, g4, g5, gf0, gf1, gf2, gf3, gf4, gf5⟩ := hbb
    go_wp2
    have hxl := hx.lt
    have hll := hl.lt
    refine wp_region_T (Since _) [] [] [47] [0, 1, 2, 3, 4] (by kernel_rfl) (by kernel_rfl) (by kernel_rfl) (Since.drew _) ?_; simp only [pickL, List.getElem?_cons_succ, List.getElem?_cons_zero]
    go_wp2_with (first
      | (with_reducible refine Since.and_ ?_ ?_; (focus (repeat (first | (with_reducible exact Since.refl _) | assumption | (with_reducible refine Since.drewR ?_) | (with_reducible refine Since.alloc ?_ _) | ((with_reducible apply Since.below); rotate_left; (focus assumption))))); intro hS) | ((with_reducible refine wpT_q0 ?_ ?_ ?_ ?_); (focus rfl); (focus rfl); (focus rfl); intro K hK) | ((with_reducible apply wpT_l); (focus rfl); (focus rfl); (focus rfl); (focus rfl); (focus (first | exact Since.drew _ | assumption)); (focus (simp <;> omega)); (focus go_simp); intro K hK) | ((with_reducible refine wpT_xs0 ?_ ?_ ?_); (focus rfl); (focus rfl); intro K hK) | ((with_reducible refine wpT_noL ?_ ?_); (focus (first | exact wanted_no _ _ _ rfl rfl rfl | exact wanted_un _ _ _ rfl rfl rfl)); simp only [setO, List.set_cons_succ, List.set_cons_zero]) | ((with_reducible refine wpT_q1 ?_ ?_ ?_ ?_); (focus exact wanted_yes _ _ _ rfl rfl rfl); (focus rfl); (focus rfl); intro K hK) | ((with_reducible refine wpT_xs1 ?_ ?_ ?_); (focus exact wanted_yes _ _ _ rfl rfl rfl); (focus rfl); intro K hK) | ((with_reducible refine wpT_nil ?_); try dsimp only)
      | fail)
    have hD := (Below.refl w30.heap.size w30).drew
    have hl := hl.below hD
    have hv := hv.below hD
    have hp := hp.below hD
    have hx := hx.below hD
    have hg := hg.below hD
    have ow := ow.below hD (Nat.le_refl _)
    have ox := ox.below hD (Nat.le_refl _)
    have og := og.below hD (Nat.le_refl _)
    have hB := hB.trans (hD.mono hB.size)
    have hS : Since w30 w30.drew := Since.drew _
    clear hD
    generalize w30.drew = w31 at *
    refine (toPlayer_c r A n c 0 _ xs w31 hn'.out hb (hA0.below hB (Nat.le_refl _)) hB.size).mono ?_
    rintro e w32 ⟨A6, c6, rfl, oy, hk32⟩
    have hl := hl.below hk32
    have hv := hv.below hk32
    have hp := hp.below hk32
    have hx := hx.below hk32
    have hg := hg.below hk32
    have ow := ow.below hk32 (Nat.le_refl _)
    have ox := ox.below hk32 (Nat.le_refl _)
    have og := og.below hk32 (Nat.le_refl _)
    have hB := hB.trans (hk32.mono hB.size)
    have z32 := hk32.size
    have hcapy := oy.cap
    have hbb := hl
    obtain ⟨l0, l1, l2, l3, l4, l5, lf0, lf1, lf2, lf3, lf4, lf5⟩ := hbb
    have hbb := hv
    obtain ⟨v0, v1, v2, v3, vf0, vf1, vf2, vf3⟩ := hbb
    have hbb := hp
    obtain ⟨p0, p1, p2, p3, p4, p5, pf0, pf1, pf2, pf3, pf4, pf5⟩ := hbb
    have hbb := hx
    obtain ⟨x0, x1, x2, x3, x4, x5, xf0, xf1, xf2, xf3, xf4, xf5⟩ := hbb
    have hbb := hg
    obtain ⟨g0, g1, g2, g3, g4, g5, gf0, gf1, gf2, gf3, gf4, gf5⟩ := hbb
    have hL := hk32
    go_wp2_with (first
      | (with_reducible refine Since.and_ ?_ ?_; (focus (repeat (first | (with_reducible exact Since.refl _) | assumption | (with_reducible refine Since.drewR ?_) | (with_reducible refine Since.alloc ?_ _) | ((with_reducible apply Since.below); rotate_left; (focus assumption))))); intro hS) | ((with_reducible refine wpT_q0 ?_ ?_ ?_ ?_); (focus rfl); (focus rfl); (focus rfl); intro K hK) | ((with_reducible apply wpT_l); (focus rfl); (focus rfl); (focus rfl); (focus rfl); (focus (first | exact Since.drew _ | assumption)); (focus (simp <;> omega)); (focus go_simp); intro K hK) | ((with_reducible refine wpT_xs0 ?_ ?_ ?_); (focus rfl); (focus rfl); intro K hK) | ((with_reducible refine wpT_noL ?_ ?_); (focus (first | exact wanted_no _ _ _ rfl rfl rfl | exact wanted_un _ _ _ rfl rfl rfl)); simp only [setO, List.set_cons_succ, List.set_cons_zero]) | ((with_reducible refine wpT_q1 ?_ ?_ ?_ ?_); (focus exact wanted_yes _ _ _ rfl rfl rfl); (focus rfl); (focus rfl); intro K hK) | ((with_reducible refine wpT_xs1 ?_ ?_ ?_); (focus exact wanted_yes _ _ _ rfl rfl rfl); (focus rfl); intro K hK) | ((with_reducible refine wpT_nil ?_); try dsimp only)
      | fail)
    refine (eqSameP_c ox oy hbx).mono ?_
    rintro e w33 ⟨rfl, hk33⟩
    have hl := hl.below hk33
    have hv := hv.below hk33
    have hp := hp.below hk33
    have hx := hx.below hk33
    have hg := hg.below hk33
    have ow := ow.below hk33 (Nat.le_refl _)
    have ox := ox.below hk33 (Nat.le_refl _)
    have og := og.below hk33 (Nat.le_refl _)
    have oy := oy.below hk33 (Nat.le_refl _)
    have hB := hB.trans (hk33.mono hB.size)
    have z33 := hk33.size
    have hbb := hl
    obtain ⟨l0, l1, l2, l3, l4, l5, lf0, lf1, lf2, lf3, lf4, lf5⟩ := hbb
    have hbb := hv
    obtain ⟨v0, v1, v2, v3, vf0, vf1, vf2, vf3⟩ := hbb
    have hbb := hp
    obtain ⟨p0, p1, p2, p3, p4, p5, pf0, pf1, pf2, pf3, pf4, pf5⟩ := hbb
    have hbb := hx
    obtain ⟨x0, x1, x2, x3, x4, x5, xf0, xf1, xf2, xf3, xf4, xf5⟩ := hbb
    have hbb := hg
    obtain ⟨g0, g1, g2, g3, g4, g5, gf0, gf1, gf2, gf3, gf4, gf5⟩ := hbb
    have hL := hk33
    go_wp2_with (first
      | (with_reducible refine Since.and_ ?_ ?_; (focus (repeat (first | (with_reducible exact Since.refl _) | assumption | (with_reducible refine Since.drewR ?_) | (with_reducible refine Since.alloc ?_ _) | ((with_reducible apply Since.below); rotate_left; (focus assumption))))); intro hS) | ((with_reducible refine wpT_q0 ?_ ?_ ?_ ?_); (focus rfl); (focus rfl); (focus rfl); intro K hK) | ((with_reducible apply wpT_l); (focus rfl); (focus rfl); (focus rfl); (focus rfl); (focus (first | exact Since.drew _ | assumption)); (focus (simp <;> omega)); (focus go_simp); intro K hK) | ((with_reducible refine wpT_xs0 ?_ ?_ ?_); (focus rfl); (focus rfl); intro K hK) | ((with_reducible refine wpT_noL ?_ ?_); (focus (first | exact wanted_no _ _ _ rfl rfl rfl | exact wanted_un _ _ _ rfl rfl rfl)); simp only [setO, List.set_cons_succ, List.set_cons_zero]) | ((with_reducible refine wpT_q1 ?_ ?_ ?_ ?_); (focus exact wanted_yes _ _ _ rfl rfl rfl); (focus rfl); (focus rfl); intro K hK) | ((with_reducible refine wpT_xs1 ?_ ?_ ?_); (focus exact wanted_yes _ _ _ rfl rfl rfl); (focus rfl); intro K hK) | ((with_reducible refine wpT_nil ?_); try dsimp only)
      | fail)
    refine (markPlayer_c r A4 xs.length c4 _ 1 xs w33 rfl hbx (by omega) (by omega) ox).mono ?_
    rintro e w34 ⟨rfl, ox, hk34⟩
    have hn := hide (show ∀ k, (Value.slice A4 xs.length c4).ownBlock = some k → w.heap.size + 1 < k ∧ b6 < k ∧ k < w18.heap.size ∧ k < b9 ∧ w17.heap.size ≤ k from fun k hk => by have := kx.out k hk; omega)
    have hl := hl.only hk34 (fun h => by have := hn.out _ h; omega)
    have hv := hv.only hk34 (fun h => by have := hn.out _ h; omega)
    have hp := hp.only hk34 (fun h => by have := hn.out _ h; omega)
    have hx := hx.only hk34 (fun h => by have := hn.out _ h; omega)
    have hg := hg.only hk34 (fun h => by have := hn.out _ h; omega)
    have ow := ow.only hk34 (Nat.le_refl _) (fun k hk h => by have := hn.out _ h; have := kw.out k hk; omega)
    have og := og.only hk34 (Nat.le_refl _) (fun k hk h => by have := hn.out _ h; have := kg.out k hk; omega)
    have hB := hB.trans (hk34.toBelow hB.size (fun k hk => by have := hn.out k hk; omega))
    have z34 := hk34.size
    clear hn hk34
    have hbb := hl
    obtain ⟨l0, l1, l2, l3, l4, l5, lf0, lf1, lf2, lf3, lf4, lf5⟩ := hbb
    have hbb := hv
    obtain ⟨v0, v1, v2, v3, vf0, vf1, vf2, vf3⟩ := hbb
    have hbb := hp
    obtain ⟨p0, p1, p2, p3, p4, p5, pf0, pf1, pf2, pf3, pf4, pf5⟩ := hbb
    have hbb := hx
    obtain ⟨x0, x1, x2, x3, x4, x5, xf0, xf1, xf2, xf3, xf4, xf5⟩ := hbb
    have hbb := hg
    obtain ⟨g0, g1, g2, g3, g4, g5, gf0, gf1, gf2, gf3, gf4, gf5⟩ := hbb
    go_wp2_with fail
    refine (eqSameP_c og ow hlen).mono ?_
    rintro e w35 ⟨rfl, hk35⟩
    have hl := hl.below hk35
    have hv := hv.below hk35
    have hp := hp.below hk35
    have hx := hx.below hk35
    have hg := hg.below hk35
    have ox := ox.below hk35 (Nat.le_refl _)
    have ow := ow.below hk35 (Nat.le_refl _)
    have og := og.below hk35 (Nat.le_refl _)
    have hB := hB.trans (hk35.mono hB.size)
    have z35 := hk35.size
    have hbb := hl
    obtain ⟨l0, l1, l2, l3, l4, l5, lf0, lf1, lf2, lf3, lf4, lf5⟩ := hbb
    have hbb := hv
    obtain ⟨v0, v1, v2, v3, vf0, vf1, vf2, vf3⟩ := hbb
    have hbb := hp
    obtain ⟨p0, p1, p2, p3, p4, p5, pf0, pf1, pf2, pf3, pf4, pf5⟩ := hbb
    have hbb := hx
    obtain ⟨x0, x1, x2, x3, x4, x5, xf0, xf1, xf2, xf3, xf4, xf5⟩ := hbb
    have hbb := hg
    obtain ⟨g0, g1, g2, g3, g4, g5, gf0, gf1, gf2, gf3, gf4, gf5⟩ := hbb
    go_wp2_with fail
    refine (markPlayer_c HR A5 HX.length c5 _ 1 HX w35 rfl hlen (by omega) (by omega) og).mono ?_
    rintro e w36 ⟨rfl, og, hk36⟩
    have hn := hide (show ∀ k, (Value.slice A5 HX.length c5).ownBlock = some k → w.heap.size + 1 < k ∧ b6 < k ∧ k ≠ b9 ∧ w18.heap.size < k from fun k hk => by have := kg.out k hk; have := hneg.out k hk; omega)
    have hl := hl.only hk36 (fun h => by have := hn.out _ h; omega)
    have hv := hv.only hk36 (fun h => by have := hn.out _ h; omega)
    have hp := hp.only hk36 (fun h => by have := hn.out _ h; omega)
    have hx := hx.only hk36 (fun h => by have := hn.out _ h; omega)
    have hg := hg.only hk36 (fun h => by have := hn.out _ h; omega)
    have ox := ox.only hk36 (Nat.le_refl _) (fun k hk h => by have := hn.out _ h; have := kx.out k hk; omega)
    have ow := ow.only hk36 (Nat.le_refl _) (fun k hk h => by have := hn.out _ h; have := kw.out k hk; omega)
    have hB := hB.trans (hk36.toBelow hB.size (fun k hk => by have := hn.out k hk; omega))
    have z36 := hk36.size
    clear hn hk36
    have hbb := hl
    obtain ⟨l0, l1, l2, l3, l4, l5, lf0, lf1, lf2, lf3, lf4, lf5⟩ := hbb
    have hbb := hv
    obtain ⟨v0, v1, v2, v3, vf0, vf1, vf2, vf3⟩ := hbb
    have hbb := hp
    obtain ⟨p0, p1, p2, p3, p4, p5, pf0, pf1, pf2, pf3, pf4, pf5⟩ := hbb
    have hbb := hx
    obtain ⟨x0, x1, x2, x3, x4, x5, xf0, xf1, xf2, xf3, xf4, xf5⟩ := hbb
    have hbb := hg
    obtain ⟨g0, g1, g2, g3, g4, g5, gf0, gf1, gf2, gf3, gf4, gf5⟩ := hbb
    go_wp2_with fail
    refine (heldPlayer_c HR A5 HX.length c5 _ 0 1 w36 hlen (by omega) (by omega) (og.slAt encReply_len).2.2).mono ?_
    rintro e w37 ⟨rfl, hk37⟩
    have hl := hl.below hk37
    have hv := hv.below hk37
    have hp := hp.below hk37
    have hx := hx.below hk37
    have hg := hg.below hk37
    have ox := ox.below hk37 (Nat.le_refl _)
    have ow := ow.below hk37 (Nat.le_refl _)
    have og := og.below hk37 (Nat.le_refl _)
    have hB := hB.trans (hk37.mono hB.size)
    have z37 := hk37.size
    have hbb := hl
    obtain ⟨l0, l1, l2, l3, l4, l5, lf0, lf1, lf2, lf3, lf4, lf5⟩ := hbb
    have hbb := hv
    obtain ⟨v0, v1, v2, v3, vf0, vf1, vf2, vf3⟩ := hbb
    have hbb := hp
    obtain ⟨p0, p1, p2, p3, p4, p5, pf0, pf1, pf2, pf3, pf4, pf5⟩ := hbb
    have hbb := hx
    obtain ⟨x0, x1, x2, x3, x4, x5, xf0, xf1, xf2, xf3, xf4, xf5⟩ := hbb
    have hbb := hg
    obtain ⟨g0, g1, g2, g3, g4, g5, gf0, gf1, gf2, gf3, gf4, gf5⟩ := hbb
    go_wp2
    have hll := hl.lt
    have hvl := hv.lt
    have hT := Below.refl w37.heap.size w37
    refine Code.wp_mono (Q := fun e a' w' => Hid (e = Exit.normal ∧ ∃ (b14 : Nat) (A8 : Option Addr) (c8 : Nat) (d16 d17 d18 d19 d20 d21 d22 d23 d24 d25 d26 d27 d28 d29 d30 d31 d32 d33 d34 d35 d36 d37 d38 d39 d40 d41 d42 d43 d44 d45 d46 d47 d48 d49 d50 d51 d52 d53 d54 d55 d56 d57 d58 d59 d60 d61 d62 d63 d64 d65 d66 d67 d68 d69 d70 d71 d72 d73 d74 d75 d76 d77 d78 d79 d80 d81 d82 d83 d84 d85 d86 : Value), a' = (⟨#[.agg #[.int .i64 r.1, .int .i64 r.2.1, .int .i64 r.2.2.1, .int .i64 r.2.2.2.1, .int .i64 r.2.2.2.2, .slice A n c], .agg #[.int .i64 t.1, .int .i64 t.2.1, .int .i64 t.2.2.1, .int .i64 t.2.2.2.1, .int .i64 t.2.2.2.2], .pointer (some ⟨w.heap.size, 0, none⟩), .pointer (some ⟨w.heap.size + 1, 0, none⟩), .bool false, .int .i64 (1048576 - (n : Int)), .pointer (some ⟨b6, 0, none⟩), .bool HB, .pointer (some ⟨w18.heap.size, 0, none⟩), .pointer (some ⟨b9, 0, none⟩), .bool HB, .int .i64 (1 + 4 * (xs.length : Int)), .int .i64 (1 + 4 * (HX.length : Int)), .int .i64 (1 + 4 * (HX.length : Int)), .pointer (some ⟨b14, 0, none⟩), .bool HB, d16, d17, d18, d19, d20, d21, d22, d23, d24, d25, d26, d27, d28, d29, d30, d31, d32, d33, d34, d35, d36, d37, d38, d39, d40, d41, d42, d43, d44, d45, d46, d47, d48, d49, d50, d51, d52, d53, d54, d55, d56, d57, d58, d59, d60, d61, d62, d63, d64, d65, d66, d67, d68, d69, d70, d71, d72, d73, d74, d75, d76, d77, d78, d79, d80, d81, d82, d83, d84, d85, d86, undef, undef, undef, undef, undef, undef, undef, undef, undef, undef, undef, undef, undef, undef, undef, undef, undef], []⟩ : Act) ∧ Below w37.heap.size w37 w' ∧ w37.heap.size ≤ b14 ∧ Box6 w' b14 (.int .i64 HR.1) (.int .i64 HR.2.1) (.int .i64 HR.2.2.1) (.int .i64 HR.2.2.2.1) (.int .i64 HR.2.2.2.2) (.slice A8 HX.length c8) ∧ Own encReply 4 37 w' w37.heap.size (.slice A8 HX.length c8) HX ∧ Hid (∀ k, (Value.slice A8 HX.length c8).ownBlock = some k → k ≠ b14))) ?_ ?_
    rotate_left
    · refine wp_region_O (Since _) [] [] [80, 82] (Ord.seg [0, 2] (Ord.both 1 8 (Ord.seg [] (Ord.both 3 8 (Ord.seg [] (Ord.both 4 8 (Ord.seg [5, 6, 7, 8, 9, 10] Ord.done) (Ord.seg [4, 5, 6, 7, 9, 10] Ord.done))) (Ord.seg [3, 4, 5, 6, 7, 9, 10] Ord.done))) (Ord.seg [1, 3, 4, 5, 6, 7, 9, 10] Ord.done))) (by kernel_rfl) (by kernel_rfl) (by kernel_rfl) (Since.drew _) ?_
      go_wp2_with (first
        | ((with_reducible refine wpO_seg ?_); simp only [pickL, List.toList_toArray, List.getElem?_cons_succ, List.getElem?_cons_zero]) | ((with_reducible refine wpO_both ?_ ?_) <;> simp only [pickL, List.toList_toArray, List.getElem?_cons_succ, List.getElem?_cons_zero]) | ((with_reducible refine wpO_done ?_); try dsimp only) | (with_reducible refine Since.and_ ?_ ?_; (focus (repeat (first | (with_reducible exact Since.refl _) | assumption | (with_reducible refine Since.drewR ?_) | (with_reducible refine Since.alloc ?_ _) | ((with_reducible refine Since.setNew ?_ ?_ _); rotate_left; (focus (first | omega | (simp; done) | (simp; omega)))) | ((with_reducible apply Since.below); rotate_left; (focus assumption))))); intro hS) | ((with_reducible refine wpT_q0 ?_ ?_ ?_ ?_); (focus rfl); (focus rfl); (focus rfl); intro K hK) | ((with_reducible apply wpT_l); (focus rfl); (focus rfl); (focus rfl); (focus rfl); (focus (first | exact Since.drew _ | assumption)); (focus (simp <;> omega)); (focus go_simp); intro K hK) | ((with_reducible apply wpT_lw); (focus exact wanted_yes _ _ _ rfl rfl rfl); (focus rfl); (focus rfl); (focus rfl); (focus (first | exact Since.drew _ | assumption)); (focus (simp <;> omega)); (focus go_simp); intro K hK) | ((with_reducible refine wpT_xs0 ?_ ?_ ?_); (focus rfl); (focus rfl); intro K hK) | ((with_reducible refine wpT_noL ?_ ?_); (focus (first | exact wanted_no _ _ _ rfl rfl rfl | exact wanted_un _ _ _ rfl rfl rfl)); simp only [setO, List.set_cons_succ, List.set_cons_zero]) | ((with_reducible refine wpT_q1 ?_ ?_ ?_ ?_); (focus exact wanted_yes _ _ _ rfl rfl rfl); (focus rfl); (focus rfl); intro K hK) | ((with_reducible refine wpT_xs1 ?_ ?_ ?_); (focus exact wanted_yes _ _ _ rfl rfl rfl); (focus rfl); intro K hK) | ((with_reducible refine wpT_nil ?_); try dsimp only)
        | fail)
      · have hD := (Below.refl w37.heap.size w37).drew
        have hS : Since w37 w37.drew := Since.drew _
        have hl := hl.below hD
        have hv := hv.below hD
        have hp := hp.below hD
        have hx := hx.below hD
        have hg := hg.below hD
        have ow := ow.below hD (Nat.le_refl _)
        have og := og.below hD (Nat.le_refl _)
        have hB := hB.trans (hD.mono hB.size)
        have hT := hT.trans (hD.mono hT.size)
        have z39 := hD.size
        generalize w37.drew = w39 at *
        refine (toPlayer_c r A n c 0 _ xs w39 hn'.out hb (hA0.below hB (Nat.le_refl _)) hB.size).mono ?_
        rintro e w40 ⟨A7, c7, rfl, oa, hk40⟩
        have hl := hl.below hk40
        have hv := hv.below hk40
        have hp := hp.below hk40
        have hx := hx.below hk40
        have hg := hg.below hk40
        have ow := ow.below hk40 (Nat.le_refl _)
        have og := og.below hk40 (Nat.le_refl _)
        have hB := hB.trans (hk40.mono hB.size)
        have hT := hT.trans (hk40.mono hT.size)
        have z40 := hk40.size
        have hcapa := oa.cap
        have hbb := hl
        obtain ⟨l0, l1, l2, l3, l4, l5, lf0, lf1, lf2, lf3, lf4, lf5⟩ := hbb
        have hbb := hv
        obtain ⟨v0, v1, v2, v3, vf0, vf1, vf2, vf3⟩ := hbb
        have hbb := hp
        obtain ⟨p0, p1, p2, p3, p4, p5, pf0, pf1, pf2, pf3, pf4, pf5⟩ := hbb
        have hbb := hx
        obtain ⟨x0, x1, x2, x3, x4, x5, xf0, xf1, xf2, xf3, xf4, xf5⟩ := hbb
        have hbb := hg
        obtain ⟨g0, g1, g2, g3, g4, g5, gf0, gf1, gf2, gf3, gf4, gf5⟩ := hbb
        have hL := hk40
        go_wp2_with (first
          | ((with_reducible refine wpO_seg ?_); simp only [pickL, List.toList_toArray, List.getElem?_cons_succ, List.getElem?_cons_zero]) | ((with_reducible refine wpO_both ?_ ?_) <;> simp only [pickL, List.toList_toArray, List.getElem?_cons_succ, List.getElem?_cons_zero]) | ((with_reducible refine wpO_done ?_); try dsimp only) | (with_reducible refine Since.and_ ?_ ?_; (focus (repeat (first | (with_reducible exact Since.refl _) | assumption | (with_reducible refine Since.drewR ?_) | (with_reducible refine Since.alloc ?_ _) | ((with_reducible refine Since.setNew ?_ ?_ _); rotate_left; (focus (first | omega | (simp; done) | (simp; omega)))) | ((with_reducible apply Since.below); rotate_left; (focus assumption))))); intro hS) | ((with_reducible refine wpT_q0 ?_ ?_ ?_ ?_); (focus rfl); (focus rfl); (focus rfl); intro K hK) | ((with_reducible apply wpT_l); (focus rfl); (focus rfl); (focus rfl); (focus rfl); (focus (first | exact Since.drew _ | assumption)); (focus (simp <;> omega)); (focus go_simp); intro K hK) | ((with_reducible apply wpT_lw); (focus exact wanted_yes _ _ _ rfl rfl rfl); (focus rfl); (focus rfl); (focus rfl); (focus (first | exact Since.drew _ | assumption)); (focus (simp <;> omega)); (focus go_simp); intro K hK) | ((with_reducible refine wpT_xs0 ?_ ?_ ?_); (focus rfl); (focus rfl); intro K hK) | ((with_reducible refine wpT_noL ?_ ?_); (focus (first | exact wanted_no _ _ _ rfl rfl rfl | exact wanted_un _ _ _ rfl rfl rfl)); simp only [setO, List.set_cons_succ, List.set_cons_zero]) | ((with_reducible refine wpT_q1 ?_ ?_ ?_ ?_); (focus exact wanted_yes _ _ _ rfl rfl rfl); (focus rfl); (focus rfl); intro K hK) | ((with_reducible refine wpT_xs1 ?_ ?_ ?_); (focus exact wanted_yes _ _ _ rfl rfl rfl); (focus rfl); intro K hK) | ((with_reducible refine wpT_nil ?_); try dsimp only)
          | fail)
        · refine (toReq_c t w40).mono ?_
          rintro e w41 ⟨rfl, hk41⟩
          have hl := hl.below hk41
          have hv := hv.below hk41
          have hp := hp.below hk41
          have hx := hx.below hk41
          have hg := hg.below hk41
          have ow := ow.below hk41 (Nat.le_refl _)
          have og := og.below hk41 (Nat.le_refl _)
          have oa := oa.below hk41 (Nat.le_refl _)
          have hB := hB.trans (hk41.mono hB.size)
          have hT := hT.trans (hk41.mono hT.size)
          have z41 := hk41.size
          have hbb := hl
          obtain ⟨l0, l1, l2, l3, l4, l5, lf0, lf1, lf2, lf3, lf4, lf5⟩ := hbb
          have hbb := hv
          obtain ⟨v0, v1, v2, v3, vf0, vf1, vf2, vf3⟩ := hbb
          have hbb := hp
          obtain ⟨p0, p1, p2, p3, p4, p5, pf0, pf1, pf2, pf3, pf4, pf5⟩ := hbb
          have hbb := hx
          obtain ⟨x0, x1, x2, x3, x4, x5, xf0, xf1, xf2, xf3, xf4, xf5⟩ := hbb
          have hbb := hg
          obtain ⟨g0, g1, g2, g3, g4, g5, gf0, gf1, gf2, gf3, gf4, gf5⟩ := hbb
          have hL := hk41
          go_wp2_with (first
            | ((with_reducible refine wpO_seg ?_); simp only [pickL, List.toList_toArray, List.getElem?_cons_succ, List.getElem?_cons_zero]) | ((with_reducible refine wpO_both ?_ ?_) <;> simp only [pickL, List.toList_toArray, List.getElem?_cons_succ, List.getElem?_cons_zero]) | ((with_reducible refine wpO_done ?_); try dsimp only) | (with_reducible refine Since.and_ ?_ ?_; (focus (repeat (first | (with_reducible exact Since.refl _) | assumption | (with_reducible refine Since.drewR ?_) | (with_reducible refine Since.alloc ?_ _) | ((with_reducible refine Since.setNew ?_ ?_ _); rotate_left; (focus (first | omega | (simp; done) | (simp; omega)))) | ((with_reducible apply Since.below); rotate_left; (focus assumption))))); intro hS) | ((with_reducible refine wpT_q0 ?_ ?_ ?_ ?_); (focus rfl); (focus rfl); (focus rfl); intro K hK) | ((with_reducible apply wpT_l); (focus rfl); (focus rfl); (focus rfl); (focus rfl); (focus (first | exact Since.drew _ | assumption)); (focus (simp <;> omega)); (focus go_simp); intro K hK) | ((with_reducible apply wpT_lw); (focus exact wanted_yes _ _ _ rfl rfl rfl); (focus rfl); (focus rfl); (focus rfl); (focus (first | exact Since.drew _ | assumption)); (focus (simp <;> omega)); (focus go_simp); intro K hK) | ((with_reducible refine wpT_xs0 ?_ ?_ ?_); (focus rfl); (focus rfl); intro K hK) | ((with_reducible refine wpT_noL ?_ ?_); (focus (first | exact wanted_no _ _ _ rfl rfl rfl | exact wanted_un _ _ _ rfl rfl rfl)); simp only [setO, List.set_cons_succ, List.set_cons_zero]) | ((with_reducible refine wpT_q1 ?_ ?_ ?_ ?_); (focus exact wanted_yes _ _ _ rfl rfl rfl); (focus rfl); (focus rfl); intro K hK) | ((with_reducible refine wpT_xs1 ?_ ?_ ?_); (focus exact wanted_yes _ _ _ rfl rfl rfl); (focus rfl); intro K hK) | ((with_reducible refine wpT_nil ?_); try dsimp only)
            | fail)
          · have hTs := hT.size
            refine (PlayerAsk_c r A7 xs.length c7 _ _ xs t w41 rfl hbx hcapa.1 hcapa.2 (oa.slAt encReply_len).2.2 (Nat.le_refl _)).mono ?_
            rintro e w42 ⟨r8, A8, n8, c8, b8, rfl, oz, hn8, hr8, hb8, hk42⟩
            rw [hH.out] at oz hn8 hr8 hb8
            dsimp only at oz hn8 hr8 hb8
            subst n8
            subst r8
            subst b8
            have hl := hl.below hk42
            have hv := hv.below hk42
            have hp := hp.below hk42
            have hx := hx.below hk42
            have hg := hg.below hk42
            have ow := ow.below hk42 (Nat.le_refl _)
            have og := og.below hk42 (Nat.le_refl _)
            have oa := oa.below hk42 (Nat.le_refl _)
            have hB := hB.trans (hk42.mono hB.size)
            have hT := hT.trans (hk42.mono hT.size)
            have z42 := hk42.size
            have hbb := hl
            obtain ⟨l0, l1, l2, l3, l4, l5, lf0, lf1, lf2, lf3, lf4, lf5⟩ := hbb
            have hbb := hv
            obtain ⟨v0, v1, v2, v3, vf0, vf1, vf2, vf3⟩ := hbb
            have hbb := hp
            obtain ⟨p0, p1, p2, p3, p4, p5, pf0, pf1, pf2, pf3, pf4, pf5⟩ := hbb
            have hbb := hx
            obtain ⟨x0, x1, x2, x3, x4, x5, xf0, xf1, xf2, xf3, xf4, xf5⟩ := hbb
            have hbb := hg
            obtain ⟨g0, g1, g2, g3, g4, g5, gf0, gf1, gf2, gf3, gf4, gf5⟩ := hbb
            have hL := hk42
            go_wp2_with (first
              | ((with_reducible refine wpO_seg ?_); simp only [pickL, List.toList_toArray, List.getElem?_cons_succ, List.getElem?_cons_zero]) | ((with_reducible refine wpO_both ?_ ?_) <;> simp only [pickL, List.toList_toArray, List.getElem?_cons_succ, List.getElem?_cons_zero]) | ((with_reducible refine wpO_done ?_); try dsimp only) | (with_reducible refine Since.and_ ?_ ?_; (focus (repeat (first | (with_reducible exact Since.refl _) | assumption | (with_reducible refine Since.drewR ?_) | (with_reducible refine Since.alloc ?_ _) | ((with_reducible refine Since.setNew ?_ ?_ _); rotate_left; (focus (first | omega | (simp; done) | (simp; omega)))) | ((with_reducible apply Since.below); rotate_left; (focus assumption))))); intro hS) | ((with_reducible refine wpT_q0 ?_ ?_ ?_ ?_); (focus rfl); (focus rfl); (focus rfl); intro K hK) | ((with_reducible apply wpT_l); (focus rfl); (focus rfl); (focus rfl); (focus rfl); (focus (first | exact Since.drew _ | assumption)); (focus (simp <;> omega)); (focus go_simp); intro K hK) | ((with_reducible apply wpT_lw); (focus exact wanted_yes _ _ _ rfl rfl rfl); (focus rfl); (focus rfl); (focus rfl); (focus (first | exact Since.drew _ | assumption)); (focus (simp <;> omega)); (focus go_simp); intro K hK) | ((with_reducible refine wpT_xs0 ?_ ?_ ?_); (focus rfl); (focus rfl); intro K hK) | ((with_reducible refine wpT_noL ?_ ?_); (focus (first | exact wanted_no _ _ _ rfl rfl rfl | exact wanted_un _ _ _ rfl rfl rfl)); simp only [setO, List.set_cons_succ, List.set_cons_zero]) | ((with_reducible refine wpT_q1 ?_ ?_ ?_ ?_); (focus exact wanted_yes _ _ _ rfl rfl rfl); (focus rfl); (focus rfl); intro K hK) | ((with_reducible refine wpT_xs1 ?_ ?_ ?_); (focus exact wanted_yes _ _ _ rfl rfl rfl); (focus rfl); intro K hK) | ((with_reducible refine wpT_nil ?_); try dsimp only)
              | fail)
            have hf := hide (fun k hk => (oz.lt k hk).2)
            exact hide ⟨by trivial, w42.heap.size, A8, c8, _, _, _, _, _, _, _, _, _, _, _, _, _, _, _, _, _, _, _, _, _, _, _, _, _, _, _, _, _, _, _, _, _, _, _, _, _, _, _, _, _, _, _, _, _, _, _, _, _, _, _, _, _, _, _, _, _, _, _, _, _, _, _, _, _, _, _, _, _, _, _, rfl, hT.trans (((Below.refl _ _).alloc (Nat.le_refl _) _).mono hT.size), hT.size, Box6.made w42 _ _ _ _ _ _ _ _ _, (oz.mono hTs).alloc _, hide (fun k hk => Nat.ne_of_lt (hf.out k hk))⟩
          · have hA := ((Below.refl w41.heap.size w41).alloc (Nat.le_refl _) (.cells #[.int .i64 0, .int .i64 0, .int .i64 0, .int .i64 0, .int .i64 0, .slice none 0 0] 32))
            have hB := hB.trans (hA.mono hB.size)
            have hT := hT.trans (hA.mono hT.size)
            have hl := hl.below hA
            have hv := hv.below hA
            have hp := hp.below hA
            have hx := hx.below hA
            have hg := hg.below hA
            have ow := ow.below hA (Nat.le_refl _)
            have og := og.below hA (Nat.le_refl _)
            have oa := oa.below hA (Nat.le_refl _)
            have hy : Box6 (w41.alloc (.cells #[.int .i64 0, .int .i64 0, .int .i64 0, .int .i64 0, .int .i64 0, .slice none 0 0] 32)) _ _ _ _ _ _ _  := Box6.made w41 0 0 0 0 0 none 0 0 32
            have z43 := hA.size
            clear hA
            generalize w41.alloc (.cells #[.int .i64 0, .int .i64 0, .int .i64 0, .int .i64 0, .int .i64 0, .slice none 0 0] 32) = w43 at *
            have hyl := hy.lt
            have hbb := hl
            obtain ⟨l0, l1, l2, l3, l4, l5, lf0, lf1, lf2, lf3, lf4, lf5⟩ := hbb
            have hbb := hv
            obtain ⟨v0, v1, v2, v3, vf0, vf1, vf2, vf3⟩ := hbb
            have hbb := hp
            obtain ⟨p0, p1, p2, p3, p4, p5, pf0, pf1, pf2, pf3, pf4, pf5⟩ := hbb
            have hbb := hx
            obtain ⟨x0, x1, x2, x3, x4, x5, xf0, xf1, xf2, xf3, xf4, xf5⟩ := hbb
            have hbb := hg
            obtain ⟨g0, g1, g2, g3, g4, g5, gf0, gf1, gf2, gf3, gf4, gf5⟩ := hbb
            have hbb := hy
            obtain ⟨y0, y1, y2, y3, y4, y5, yf0, yf1, yf2, yf3, yf4, yf5⟩ := hbb
            have hTs := hT.size
            refine (PlayerAsk_c r A7 xs.length c7 _ _ xs t w43 rfl hbx hcapa.1 hcapa.2 (oa.slAt encReply_len).2.2 (Nat.le_refl _)).mono ?_
            rintro e w44 ⟨r8, A8, n8, c8, b8, rfl, oz, hn8, hr8, hb8, hk44⟩
            rw [hH.out] at oz hn8 hr8 hb8
            dsimp only at oz hn8 hr8 hb8
            subst n8
            subst r8
            subst b8
            have hl := hl.below hk44
            have hv := hv.below hk44
            have hp := hp.below hk44
            have hx := hx.below hk44
            have hg := hg.below hk44
            have hy := hy.below hk44
            have ow := ow.below hk44 (Nat.le_refl _)
            have og := og.below hk44 (Nat.le_refl _)
            have oa := oa.below hk44 (Nat.le_refl _)
            have hB := hB.trans (hk44.mono hB.size)
            have hT := hT.trans (hk44.mono hT.size)
            have z44 := hk44.size
            have hbb := hl
            obtain ⟨l0, l1, l2, l3, l4, l5, lf0, lf1, lf2, lf3, lf4, lf5⟩ := hbb
            have hbb := hv
            obtain ⟨v0, v1, v2, v3, vf0, vf1, vf2, vf3⟩ := hbb
            have hbb := hp
            obtain ⟨p0, p1, p2, p3, p4, p5, pf0, pf1, pf2, pf3, pf4, pf5⟩ := hbb
            have hbb := hx
            obtain ⟨x0, x1, x2, x3, x4, x5, xf0, xf1, xf2, xf3, xf4, xf5⟩ := hbb
            have hbb := hg
            obtain ⟨g0, g1, g2, g3, g4, g5, gf0, gf1, gf2, gf3, gf4, gf5⟩ := hbb
            have hbb := hy
            obtain ⟨y0, y1, y2, y3, y4, y5, yf0, yf1, yf2, yf3, yf4, yf5⟩ := hbb
            have hL := hk44
            go_wp2_with (first
              | ((with_reducible refine wpO_seg ?_); simp only [pickL, List.toList_toArray, List.getElem?_cons_succ, List.getElem?_cons_zero]) | ((with_reducible refine wpO_both ?_ ?_) <;> simp only [pickL, List.toList_toArray, List.getElem?_cons_succ, List.getElem?_cons_zero]) | ((with_reducible refine wpO_done ?_); try dsimp only) | (with_reducible refine Since.and_ ?_ ?_; (focus (repeat (first | (with_reducible exact Since.refl _) | assumption | (with_reducible refine Since.drewR ?_) | (with_reducible refine Since.alloc ?_ _) | ((with_reducible refine Since.setNew ?_ ?_ _); rotate_left; (focus (first | omega | (simp; done) | (simp; omega)))) | ((with_reducible apply Since.below); rotate_left; (focus assumption))))); intro hS) | ((with_reducible refine wpT_q0 ?_ ?_ ?_ ?_); (focus rfl); (focus rfl); (focus rfl); intro K hK) | ((with_reducible apply wpT_l); (focus rfl); (focus rfl); (focus rfl); (focus rfl); (focus (first | exact Since.drew _ | assumption)); (focus (simp <;> omega)); (focus go_simp); intro K hK) | ((with_reducible apply wpT_lw); (focus exact wanted_yes _ _ _ rfl rfl rfl); (focus rfl); (focus rfl); (focus rfl); (focus (first | exact Since.drew _ | assumption)); (focus (simp <;> omega)); (focus go_simp); intro K hK) | ((with_reducible refine wpT_xs0 ?_ ?_ ?_); (focus rfl); (focus rfl); intro K hK) | ((with_reducible refine wpT_noL ?_ ?_); (focus (first | exact wanted_no _ _ _ rfl rfl rfl | exact wanted_un _ _ _ rfl rfl rfl)); simp only [setO, List.set_cons_succ, List.set_cons_zero]) | ((with_reducible refine wpT_q1 ?_ ?_ ?_ ?_); (focus exact wanted_yes _ _ _ rfl rfl rfl); (focus rfl); (focus rfl); intro K hK) | ((with_reducible refine wpT_xs1 ?_ ?_ ?_); (focus exact wanted_yes _ _ _ rfl rfl rfl); (focus rfl); intro K hK) | ((with_reducible refine wpT_nil ?_); try dsimp only)
              | fail)
            exact hide ⟨by trivial, w41.heap.size, A8, c8, _, _, _, _, _, _, _, _, _, _, _, _, _, _, _, _, _, _, _, _, _, _, _, _, _, _, _, _, _, _, _, _, _, _, _, _, _, _, _, _, _, _, _, _, _, _, _, _, _, _, _, _, _, _, _, _, _, _, _, _, _, _, _, _, _, _, _, _, _, _, _, rfl, set6_below _ _ _ _ _ _ (by omega) hT, by omega, hy.set _ _ _ _ _ _ _ _, (oz.mono hTs).set6 _ _ _ _ _ _ (fun k hk => by have := (oz.lt k hk).1; omega), hide (fun k hk => by have := (oz.lt k hk).1; omega)⟩
        · have hA := ((Below.refl w40.heap.size w40).alloc (Nat.le_refl _) (.cells #[.int .i64 0, .int .i64 0, .int .i64 0, .int .i64 0, .int .i64 0, .slice none 0 0] 32))
          have hB := hB.trans (hA.mono hB.size)
          have hT := hT.trans (hA.mono hT.size)
          have hl := hl.below hA
          have hv := hv.below hA
          have hp := hp.below hA
          have hx := hx.below hA
          have hg := hg.below hA
          have ow := ow.below hA (Nat.le_refl _)
          have og := og.below hA (Nat.le_refl _)
          have oa := oa.below hA (Nat.le_refl _)
          have hy : Box6 (w40.alloc (.cells #[.int .i64 0, .int .i64 0, .int .i64 0, .int .i64 0, .int .i64 0, .slice none 0 0] 32)) _ _ _ _ _ _ _  := Box6.made w40 0 0 0 0 0 none 0 0 32
          have z45 := hA.size
          clear hA
          generalize w40.alloc (.cells #[.int .i64 0, .int .i64 0, .int .i64 0, .int .i64 0, .int .i64 0, .slice none 0 0] 32) = w45 at *
          have hyl := hy.lt
          have hbb := hl
          obtain ⟨l0, l1, l2, l3, l4, l5, lf0, lf1, lf2, lf3, lf4, lf5⟩ := hbb
          have hbb := hv
          obtain ⟨v0, v1, v2, v3, vf0, vf1, vf2, vf3⟩ := hbb
          have hbb := hp
          obtain ⟨p0, p1, p2, p3, p4, p5, pf0, pf1, pf2, pf3, pf4, pf5⟩ := hbb
          have hbb := hx
          obtain ⟨x0, x1, x2, x3, x4, x5, xf0, xf1, xf2, xf3, xf4, xf5⟩ := hbb
          have hbb := hg
          obtain ⟨g0, g1, g2, g3, g4, g5, gf0, gf1, gf2, gf3, gf4, gf5⟩ := hbb
          have hbb := hy
          obtain ⟨y0, y1, y2, y3, y4, y5, yf0, yf1, yf2, yf3, yf4, yf5⟩ := hbb
          refine (toReq_c t w45).mono ?_
          rintro e w46 ⟨rfl, hk46⟩
          have hl := hl.below hk46
          have hv := hv.below hk46
          have hp := hp.below hk46
          have hx := hx.below hk46
          have hg := hg.below hk46
          have hy := hy.below hk46
          have ow := ow.below hk46 (Nat.le_refl _)
          have og := og.below hk46 (Nat.le_refl _)
          have oa := oa.below hk46 (Nat.le_refl _)
          have hB := hB.trans (hk46.mono hB.size)
          have hT := hT.trans (hk46.mono hT.size)
          have z46 := hk46.size
          have hbb := hl
          obtain ⟨l0, l1, l2, l3, l4, l5, lf0, lf1, lf2, lf3, lf4, lf5⟩ := hbb
          have hbb := hv
          obtain ⟨v0, v1, v2, v3, vf0, vf1, vf2, vf3⟩ := hbb
          have hbb := hp
          obtain ⟨p0, p1, p2, p3, p4, p5, pf0, pf1, pf2, pf3, pf4, pf5⟩ := hbb
          have hbb := hx
          obtain ⟨x0, x1, x2, x3, x4, x5, xf0, xf1, xf2, xf3, xf4, xf5⟩ := hbb
          have hbb := hg
          obtain ⟨g0, g1, g2, g3, g4, g5, gf0, gf1, gf2, gf3, gf4, gf5⟩ := hbb
          have hbb := hy
          obtain ⟨y0, y1, y2, y3, y4, y5, yf0, yf1, yf2, yf3, yf4, yf5⟩ := hbb
          have hL := hk46
          go_wp2_with (first
            | ((with_reducible refine wpO_seg ?_); simp only [pickL, List.toList_toArray, List.getElem?_cons_succ, List.getElem?_cons_zero]) | ((with_reducible refine wpO_both ?_ ?_) <;> simp only [pickL, List.toList_toArray, List.getElem?_cons_succ, List.getElem?_cons_zero]) | ((with_reducible refine wpO_done ?_); try dsimp only) | (with_reducible refine Since.and_ ?_ ?_; (focus (repeat (first | (with_reducible exact Since.refl _) | assumption | (with_reducible refine Since.drewR ?_) | (with_reducible refine Since.alloc ?_ _) | ((with_reducible refine Since.setNew ?_ ?_ _); rotate_left; (focus (first | omega | (simp; done) | (simp; omega)))) | ((with_reducible apply Since.below); rotate_left; (focus assumption))))); intro hS) | ((with_reducible refine wpT_q0 ?_ ?_ ?_ ?_); (focus rfl); (focus rfl); (focus rfl); intro K hK) | ((with_reducible apply wpT_l); (focus rfl); (focus rfl); (focus rfl); (focus rfl); (focus (first | exact Since.drew _ | assumption)); (focus (simp <;> omega)); (focus go_simp); intro K hK) | ((with_reducible apply wpT_lw); (focus exact wanted_yes _ _ _ rfl rfl rfl); (focus rfl); (focus rfl); (focus rfl); (focus (first | exact Since.drew _ | assumption)); (focus (simp <;> omega)); (focus go_simp); intro K hK) | ((with_reducible refine wpT_xs0 ?_ ?_ ?_); (focus rfl); (focus rfl); intro K hK) | ((with_reducible refine wpT_noL ?_ ?_); (focus (first | exact wanted_no _ _ _ rfl rfl rfl | exact wanted_un _ _ _ rfl rfl rfl)); simp only [setO, List.set_cons_succ, List.set_cons_zero]) | ((with_reducible refine wpT_q1 ?_ ?_ ?_ ?_); (focus exact wanted_yes _ _ _ rfl rfl rfl); (focus rfl); (focus rfl); intro K hK) | ((with_reducible refine wpT_xs1 ?_ ?_ ?_); (focus exact wanted_yes _ _ _ rfl rfl rfl); (focus rfl); intro K hK) | ((with_reducible refine wpT_nil ?_); try dsimp only)
            | fail)
          have hyl := hy.lt
          have hTs := hT.size
          refine (PlayerAsk_c r A7 xs.length c7 _ _ xs t w46 rfl hbx hcapa.1 hcapa.2 (oa.slAt encReply_len).2.2 (Nat.le_refl _)).mono ?_
          rintro e w47 ⟨r8, A8, n8, c8, b8, rfl, oz, hn8, hr8, hb8, hk47⟩
          rw [hH.out] at oz hn8 hr8 hb8
          dsimp only at oz hn8 hr8 hb8
          subst n8
          subst r8
          subst b8
          have hl := hl.below hk47
          have hv := hv.below hk47
          have hp := hp.below hk47
          have hx := hx.below hk47
          have hg := hg.below hk47
          have hy := hy.below hk47
          have ow := ow.below hk47 (Nat.le_refl _)
          have og := og.below hk47 (Nat.le_refl _)
          have oa := oa.below hk47 (Nat.le_refl _)
          have hB := hB.trans (hk47.mono hB.size)
          have hT := hT.trans (hk47.mono hT.size)
          have z47 := hk47.size
          have hbb := hl
          obtain ⟨l0, l1, l2, l3, l4, l5, lf0, lf1, lf2, lf3, lf4, lf5⟩ := hbb
          have hbb := hv
          obtain ⟨v0, v1, v2, v3, vf0, vf1, vf2, vf3⟩ := hbb
          have hbb := hp
          obtain ⟨p0, p1, p2, p3, p4, p5, pf0, pf1, pf2, pf3, pf4, pf5⟩ := hbb
          have hbb := hx
          obtain ⟨x0, x1, x2, x3, x4, x5, xf0, xf1, xf2, xf3, xf4, xf5⟩ := hbb
          have hbb := hg
          obtain ⟨g0, g1, g2, g3, g4, g5, gf0, gf1, gf2, gf3, gf4, gf5⟩ := hbb
          have hbb := hy
          obtain ⟨y0, y1, y2, y3, y4, y5, yf0, yf1, yf2, yf3, yf4, yf5⟩ := hbb
          have hL := hk47
          go_wp2_with (first
            | ((with_reducible refine wpO_seg ?_); simp only [pickL, List.toList_toArray, List.getElem?_cons_succ, List.getElem?_cons_zero]) | ((with_reducible refine wpO_both ?_ ?_) <;> simp only [pickL, List.toList_toArray, List.getElem?_cons_succ, List.getElem?_cons_zero]) | ((with_reducible refine wpO_done ?_); try dsimp only) | (with_reducible refine Since.and_ ?_ ?_; (focus (repeat (first | (with_reducible exact Since.refl _) | assumption | (with_reducible refine Since.drewR ?_) | (with_reducible refine Since.alloc ?_ _) | ((with_reducible refine Since.setNew ?_ ?_ _); rotate_left; (focus (first | omega | (simp; done) | (simp; omega)))) | ((with_reducible apply Since.below); rotate_left; (focus assumption))))); intro hS) | ((with_reducible refine wpT_q0 ?_ ?_ ?_ ?_); (focus rfl); (focus rfl); (focus rfl); intro K hK) | ((with_reducible apply wpT_l); (focus rfl); (focus rfl); (focus rfl); (focus rfl); (focus (first | exact Since.drew _ | assumption)); (focus (simp <;> omega)); (focus go_simp); intro K hK) | ((with_reducible apply wpT_lw); (focus exact wanted_yes _ _ _ rfl rfl rfl); (focus rfl); (focus rfl); (focus rfl); (focus (first | exact Since.drew _ | assumption)); (focus (simp <;> omega)); (focus go_simp); intro K hK) | ((with_reducible refine wpT_xs0 ?_ ?_ ?_); (focus rfl); (focus rfl); intro K hK) | ((with_reducible refine wpT_noL ?_ ?_); (focus (first | exact wanted_no _ _ _ rfl rfl rfl | exact wanted_un _ _ _ rfl rfl rfl)); simp only [setO, List.set_cons_succ, List.set_cons_zero]) | ((with_reducible refine wpT_q1 ?_ ?_ ?_ ?_); (focus exact wanted_yes _ _ _ rfl rfl rfl); (focus rfl); (focus rfl); intro K hK) | ((with_reducible refine wpT_xs1 ?_ ?_ ?_); (focus exact wanted_yes _ _ _ rfl rfl rfl); (focus rfl); intro K hK) | ((with_reducible refine wpT_nil ?_); try dsimp only)
            | fail)
          exact hide ⟨by trivial, w40.heap.size, A8, c8, _, _, _, _, _, _, _, _, _, _, _, _, _, _, _, _, _, _, _, _, _, _, _, _, _, _, _, _, _, _, _, _, _, _, _, _, _, _, _, _, _, _, _, _, _, _, _, _, _, _, _, _, _, _, _, _, _, _, _, _, _, _, _, _, _, _, _, _, _, _, _, rfl, set6_below _ _ _ _ _ _ (by omega) hT, by omega, hy.set _ _ _ _ _ _ _ _, (oz.mono hTs).set6 _ _ _ _ _ _ (fun k hk => by have := (oz.lt k hk).1; omega), hide (fun k hk => by have := (oz.lt k hk).1; omega)⟩
      · have hA := ((Below.refl w37.heap.size w37).alloc (Nat.le_refl _) (.cells #[.int .i64 0, .int .i64 0, .int .i64 0, .int .i64 0, .int .i64 0, .slice none 0 0] 32)).drew
        have hB := hB.trans (hA.mono hB.size)
        have hT := hT.trans (hA.mono hT.size)
        have hl := hl.below hA
        have hv := hv.below hA
        have hp := hp.below hA
        have hx := hx.below hA
        have hg := hg.below hA
        have ow := ow.below hA (Nat.le_refl _)
        have og := og.below hA (Nat.le_refl _)
        have hy : Box6 (w37.alloc (.cells #[.int .i64 0, .int .i64 0, .int .i64 0, .int .i64 0, .int .i64 0, .slice none 0 0] 32)).drew _ _ _ _ _ _ _  := Box6.made w37 0 0 0 0 0 none 0 0 32
        have z48 := hA.size
        clear hA
        generalize (w37.alloc (.cells #[.int .i64 0, .int .i64 0, .int .i64 0, .int .i64 0, .int .i64 0, .slice none 0 0] 32)).drew = w48 at *
        have hyl := hy.lt
        have hbb := hl
        obtain ⟨l0, l1, l2, l3, l4, l5, lf0, lf1, lf2, lf3, lf4, lf5⟩ := hbb
        have hbb := hv
        obtain ⟨v0, v1, v2, v3, vf0, vf1, vf2, vf3⟩ := hbb
        have hbb := hp
        obtain ⟨p0, p1, p2, p3, p4, p5, pf0, pf1, pf2, pf3, pf4, pf5⟩ := hbb
        have hbb := hx
        obtain ⟨x0, x1, x2, x3, x4, x5, xf0, xf1, xf2, xf3, xf4, xf5⟩ := hbb
        have hbb := hg
        obtain ⟨g0, g1, g2, g3, g4, g5, gf0, gf1, gf2, gf3, gf4, gf5⟩ := hbb
        have hbb := hy
        obtain ⟨y0, y1, y2, y3, y4, y5, yf0, yf1, yf2, yf3, yf4, yf5⟩ := hbb
        refine (toPlayer_c r A n c 0 _ xs w48 hn'.out hb (hA0.below hB (Nat.le_refl _)) hB.size).mono ?_
        rintro e w49 ⟨A7, c7, rfl, oa, hk49⟩
        have hl := hl.below hk49
        have hv := hv.below hk49
        have hp := hp.below hk49
        have hx := hx.below hk49
        have hg := hg.below hk49
        have hy := hy.below hk49
        have ow := ow.below hk49 (Nat.le_refl _)
        have og := og.below hk49 (Nat.le_refl _)
        have hB := hB.trans (hk49.mono hB.size)
        have hT := hT.trans (hk49.mono hT.size)
        have z49 := hk49.size
        have hcapa := oa.cap
        have hbb := hl
        obtain ⟨l0, l1, l2, l3, l4, l5, lf0, lf1, lf2, lf3, lf4, lf5⟩ := hbb
        have hbb := hv
        obtain ⟨v0, v1, v2, v3, vf0, vf1, vf2, vf3⟩ := hbb
        have hbb := hp
        obtain ⟨p0, p1, p2, p3, p4, p5, pf0, pf1, pf2, pf3, pf4, pf5⟩ := hbb
        have hbb := hx
        obtain ⟨x0, x1, x2, x3, x4, x5, xf0, xf1, xf2, xf3, xf4, xf5⟩ := hbb
        have hbb := hg
        obtain ⟨g0, g1, g2, g3, g4, g5, gf0, gf1, gf2, gf3, gf4, gf5⟩ := hbb
        have hbb := hy
        obtain ⟨y0, y1, y2, y3, y4, y5, yf0, yf1, yf2, yf3, yf4, yf5⟩ := hbb
        have hL := hk49
        go_wp2_with (first
          | ((with_reducible refine wpO_seg ?_); simp only [pickL, List.toList_toArray, List.getElem?_cons_succ, List.getElem?_cons_zero]) | ((with_reducible refine wpO_both ?_ ?_) <;> simp only [pickL, List.toList_toArray, List.getElem?_cons_succ, List.getElem?_cons_zero]) | ((with_reducible refine wpO_done ?_); try dsimp only) | (with_reducible refine Since.and_ ?_ ?_; (focus (repeat (first | (with_reducible exact Since.refl _) | assumption | (with_reducible refine Since.drewR ?_) | (with_reducible refine Since.alloc ?_ _) | ((with_reducible refine Since.setNew ?_ ?_ _); rotate_left; (focus (first | omega | (simp; done) | (simp; omega)))) | ((with_reducible apply Since.below); rotate_left; (focus assumption))))); intro hS) | ((with_reducible refine wpT_q0 ?_ ?_ ?_ ?_); (focus rfl); (focus rfl); (focus rfl); intro K hK) | ((with_reducible apply wpT_l); (focus rfl); (focus rfl); (focus rfl); (focus rfl); (focus (first | exact Since.drew _ | assumption)); (focus (simp <;> omega)); (focus go_simp); intro K hK) | ((with_reducible apply wpT_lw); (focus exact wanted_yes _ _ _ rfl rfl rfl); (focus rfl); (focus rfl); (focus rfl); (focus (first | exact Since.drew _ | assumption)); (focus (simp <;> omega)); (focus go_simp); intro K hK) | ((with_reducible refine wpT_xs0 ?_ ?_ ?_); (focus rfl); (focus rfl); intro K hK) | ((with_reducible refine wpT_noL ?_ ?_); (focus (first | exact wanted_no _ _ _ rfl rfl rfl | exact wanted_un _ _ _ rfl rfl rfl)); simp only [setO, List.set_cons_succ, List.set_cons_zero]) | ((with_reducible refine wpT_q1 ?_ ?_ ?_ ?_); (focus exact wanted_yes _ _ _ rfl rfl rfl); (focus rfl); (focus rfl); intro K hK) | ((with_reducible refine wpT_xs1 ?_ ?_ ?_); (focus exact wanted_yes _ _ _ rfl rfl rfl); (focus rfl); intro K hK) | ((with_reducible refine wpT_nil ?_); try dsimp only)
          | fail)
        have hyl := hy.lt
        refine (toReq_c t w49).mono ?_
        rintro e w50 ⟨rfl, hk50⟩
        have hl := hl.below hk50
        have hv := hv.below hk50
        have hp := hp.below hk50
        have hx := hx.below hk50
        have hg := hg.below hk50
        have hy := hy.below hk50
        have ow := ow.below hk50 (Nat.le_refl _)
        have og := og.below hk50 (Nat.le_refl _)
        have oa := oa.below hk50 (Nat.le_refl _)
        have hB := hB.trans (hk50.mono hB.size)
        have hT := hT.trans (hk50.mono hT.size)
        have z50 := hk50.size
        have hbb := hl
        obtain ⟨l0, l1, l2, l3, l4, l5, lf0, lf1, lf2, lf3, lf4, lf5⟩ := hbb
        have hbb := hv
        obtain ⟨v0, v1, v2, v3, vf0, vf1, vf2, vf3⟩ := hbb
        have hbb := hp
        obtain ⟨p0, p1, p2, p3, p4, p5, pf0, pf1, pf2, pf3, pf4, pf5⟩ := hbb
        have hbb := hx
        obtain ⟨x0, x1, x2, x3, x4, x5, xf0, xf1, xf2, xf3, xf4, xf5⟩ := hbb
        have hbb := hg
        obtain ⟨g0, g1, g2, g3, g4, g5, gf0, gf1, gf2, gf3, gf4, gf5⟩ := hbb
        have hbb := hy
        obtain ⟨y0, y1, y2, y3, y4, y5, yf0, yf1, yf2, yf3, yf4, yf5⟩ := hbb
        have hL := hk50
        go_wp2_with (first
          | ((with_reducible refine wpO_seg ?_); simp only [pickL, List.toList_toArray, List.getElem?_cons_succ, List.getElem?_cons_zero]) | ((with_reducible refine wpO_both ?_ ?_) <;> simp only [pickL, List.toList_toArray, List.getElem?_cons_succ, List.getElem?_cons_zero]) | ((with_reducible refine wpO_done ?_); try dsimp only) | (with_reducible refine Since.and_ ?_ ?_; (focus (repeat (first | (with_reducible exact Since.refl _) | assumption | (with_reducible refine Since.drewR ?_) | (with_reducible refine Since.alloc ?_ _) | ((with_reducible refine Since.setNew ?_ ?_ _); rotate_left; (focus (first | omega | (simp; done) | (simp; omega)))) | ((with_reducible apply Since.below); rotate_left; (focus assumption))))); intro hS) | ((with_reducible refine wpT_q0 ?_ ?_ ?_ ?_); (focus rfl); (focus rfl); (focus rfl); intro K hK) | ((with_reducible apply wpT_l); (focus rfl); (focus rfl); (focus rfl); (focus rfl); (focus (first | exact Since.drew _ | assumption)); (focus (simp <;> omega)); (focus go_simp); intro K hK) | ((with_reducible apply wpT_lw); (focus exact wanted_yes _ _ _ rfl rfl rfl); (focus rfl); (focus rfl); (focus rfl); (focus (first | exact Since.drew _ | assumption)); (focus (simp <;> omega)); (focus go_simp); intro K hK) | ((with_reducible refine wpT_xs0 ?_ ?_ ?_); (focus rfl); (focus rfl); intro K hK) | ((with_reducible refine wpT_noL ?_ ?_); (focus (first | exact wanted_no _ _ _ rfl rfl rfl | exact wanted_un _ _ _ rfl rfl rfl)); simp only [setO, List.set_cons_succ, List.set_cons_zero]) | ((with_reducible refine wpT_q1 ?_ ?_ ?_ ?_); (focus exact wanted_yes _ _ _ rfl rfl rfl); (focus rfl); (focus rfl); intro K hK) | ((with_reducible refine wpT_xs1 ?_ ?_ ?_); (focus exact wanted_yes _ _ _ rfl rfl rfl); (focus rfl); intro K hK) | ((with_reducible refine wpT_nil ?_); try dsimp only)
          | fail)
        have hyl := hy.lt
        have hTs := hT.size
        refine (PlayerAsk_c r A7 xs.length c7 _ _ xs t w50 rfl hbx hcapa.1 hcapa.2 (oa.slAt encReply_len).2.2 (Nat.le_refl _)).mono ?_
        rintro e w51 ⟨r8, A8, n8, c8, b8, rfl, oz, hn8, hr8, hb8, hk51⟩
        rw [hH.out] at oz hn8 hr8 hb8
        dsimp only at oz hn8 hr8 hb8
        subst n8
        subst r8
        subst b8
        have hl := hl.below hk51
        have hv := hv.below hk51
        have hp := hp.below hk51
        have hx := hx.below hk51
        have hg := hg.below hk51
        have hy := hy.below hk51
        have ow := ow.below hk51 (Nat.le_refl _)
        have og := og.below hk51 (Nat.le_refl _)
        have oa := oa.below hk51 (Nat.le_refl _)
        have hB := hB.trans (hk51.mono hB.size)
        have hT := hT.trans (hk51.mono hT.size)
        have z51 := hk51.size
        have hbb := hl
        obtain ⟨l0, l1, l2, l3, l4, l5, lf0, lf1, lf2, lf3, lf4, lf5⟩ := hbb
        have hbb := hv
        obtain ⟨v0, v1, v2, v3, vf0, vf1, vf2, vf3⟩ := hbb
        have hbb := hp
        obtain ⟨p0, p1, p2, p3, p4, p5, pf0, pf1, pf2, pf3, pf4, pf5⟩ := hbb
        have hbb := hx
        obtain ⟨x0, x1, x2, x3, x4, x5, xf0, xf1, xf2, xf3, xf4, xf5⟩ := hbb
        have hbb := hg
        obtain ⟨g0, g1, g2, g3, g4, g5, gf0, gf1, gf2, gf3, gf4, gf5⟩ := hbb
        have hbb := hy
        obtain ⟨y0, y1, y2, y3, y4, y5, yf0, yf1, yf2, yf3, yf4, yf5⟩ := hbb
        have hL := hk51
        go_wp2_with (first
          | ((with_reducible refine wpO_seg ?_); simp only [pickL, List.toList_toArray, List.getElem?_cons_succ, List.getElem?_cons_zero]) | ((with_reducible refine wpO_both ?_ ?_) <;> simp only [pickL, List.toList_toArray, List.getElem?_cons_succ, List.getElem?_cons_zero]) | ((with_reducible refine wpO_done ?_); try dsimp only) | (with_reducible refine Since.and_ ?_ ?_; (focus (repeat (first | (with_reducible exact Since.refl _) | assumption | (with_reducible refine Since.drewR ?_) | (with_reducible refine Since.alloc ?_ _) | ((with_reducible refine Since.setNew ?_ ?_ _); rotate_left; (focus (first | omega | (simp; done) | (simp; omega)))) | ((with_reducible apply Since.below); rotate_left; (focus assumption))))); intro hS) | ((with_reducible refine wpT_q0 ?_ ?_ ?_ ?_); (focus rfl); (focus rfl); (focus rfl); intro K hK) | ((with_reducible apply wpT_l); (focus rfl); (focus rfl); (focus rfl); (focus rfl); (focus (first | exact Since.drew _ | assumption)); (focus (simp <;> omega)); (focus go_simp); intro K hK) | ((with_reducible apply wpT_lw); (focus exact wanted_yes _ _ _ rfl rfl rfl); (focus rfl); (focus rfl); (focus rfl); (focus (first | exact Since.drew _ | assumption)); (focus (simp <;> omega)); (focus go_simp); intro K hK) | ((with_reducible refine wpT_xs0 ?_ ?_ ?_); (focus rfl); (focus rfl); intro K hK) | ((with_reducible refine wpT_noL ?_ ?_); (focus (first | exact wanted_no _ _ _ rfl rfl rfl | exact wanted_un _ _ _ rfl rfl rfl)); simp only [setO, List.set_cons_succ, List.set_cons_zero]) | ((with_reducible refine wpT_q1 ?_ ?_ ?_ ?_); (focus exact wanted_yes _ _ _ rfl rfl rfl); (focus rfl); (focus rfl); intro K hK) | ((with_reducible refine wpT_xs1 ?_ ?_ ?_); (focus exact wanted_yes _ _ _ rfl rfl rfl); (focus rfl); intro K hK) | ((with_reducible refine wpT_nil ?_); try dsimp only)
          | fail)
        exact hide ⟨by trivial, w37.heap.size, A8, c8, _, _, _, _, _, _, _, _, _, _, _, _, _, _, _, _, _, _, _, _, _, _, _, _, _, _, _, _, _, _, _, _, _, _, _, _, _, _, _, _, _, _, _, _, _, _, _, _, _, _, _, _, _, _, _, _, _, _, _, _, _, _, _, _, _, _, _, _, _, _, _, rfl, set6_below _ _ _ _ _ _ (by omega) hT, by omega, hy.set _ _ _ _ _ _ _ _, (oz.mono hTs).set6 _ _ _ _ _ _ (fun k hk => by have := (oz.lt k hk).1; omega), hide (fun k hk => by have := (oz.lt k hk).1; omega)⟩
    rintro e a' w52 hQ
    obtain ⟨rfl, b14, A8, c8, d16, d17, d18, d19, d20, d21, d22, d23, d24, d25, d26, d27, d28, d29, d30, d31, d32, d33, d34, d35, d36, d37, d38, d39, d40, d41, d42, d43, d44, d45, d46, d47, d48, d49, d50, d51, d52, d53, d54, d55, d56, d57, d58, d59, d60, d61, d62, d63, d64, d65, d66, d67, d68, d69, d70, d71, d72, d73, d74, d75, d76, d77, d78, d79, d80, d81, d82, d83, d84, d85, d86, rfl, hk52, hb14, hqz, oz, hnez⟩ := hQ.out
    have hl := hl.below hk52
    have hv := hv.below hk52
    have hp := hp.below hk52
    have hx := hx.below hk52
    have hg := hg.below hk52
    have ow := ow.below hk52 (Nat.le_refl _)
    have og := og.below hk52 (Nat.le_refl _)
    have hB := hB.trans (hk52.mono hB.size)
    have z52 := hk52.size
    have hz := hqz
    have hloz := hz.lt
    have kz := hide (oz.lt)
    clear hT hqz
    have hbb := hl
    obtain ⟨l0, l1, l2, l3, l4, l5, lf0, lf1, lf2, lf3, lf4, lf5⟩ := hbb
    have hbb := hv
    obtain ⟨v0, v1, v2, v3, vf0, vf1, vf2, vf3⟩ := hbb
    have hbb := hp
    obtain ⟨p0, p1, p2, p3, p4, p5, pf0, pf1, pf2, pf3, pf4, pf5⟩ := hbb
    have hbb := hx
    obtain ⟨x0, x1, x2, x3, x4, x5, xf0, xf1, xf2, xf3, xf4, xf5⟩ := hbb
    have hbb := hg
    obtain ⟨g0, g1, g2, g3, g4, g5, gf0, gf1, gf2, gf3, gf4, gf5⟩ := hbb
    have hbb := hz
    obtain ⟨z0, z1, z2, z3, z4, z5, zf0, zf1, zf2, zf3, zf4, zf5⟩ := hbb
    go_wp2_with fail
    refine (eqSameP_c oz ow hlen).mono ?_
    rintro e w53 ⟨rfl, hk53⟩
    have hl := hl.below hk53
    have hv := hv.below hk53
    have hp := hp.below hk53
    have hx := hx.below hk53
    have hg := hg.below hk53
    have hz := hz.below hk53
    have ow := ow.below hk53 (Nat.le_refl _)
    have og := og.below hk53 (Nat.le_refl _)
    have oz := oz.below hk53 (Nat.le_refl _)
    have hB := hB.trans (hk53.mono hB.size)
    have z53 := hk53.size
    have hbb := hl
    obtain ⟨l0, l1, l2, l3, l4, l5, lf0, lf1, lf2, lf3, lf4, lf5⟩ := hbb
    have hbb := hv
    obtain ⟨v0, v1, v2, v3, vf0, vf1, vf2, vf3⟩ := hbb
    have hbb := hp
    obtain ⟨p0, p1, p2, p3, p4, p5, pf0, pf1, pf2, pf3, pf4, pf5⟩ := hbb
    have hbb := hx
    obtain ⟨x0, x1, x2, x3, x4, x5, xf0, xf1, xf2, xf3, xf4, xf5⟩ := hbb
    have hbb := hg
    obtain ⟨g0, g1, g2, g3, g4, g5, gf0, gf1, gf2, gf3, gf4, gf5⟩ := hbb
    have hbb := hz
    obtain ⟨z0, z1, z2, z3, z4, z5, zf0, zf1, zf2, zf3, zf4, zf5⟩ := hbb
    go_wp2_with fail
    refine (heldPlayer_c HR A5 HX.length c5 _ 0 1 w53 hlen (by omega) (by omega) (og.slAt encReply_len).2.2).mono ?_
    rintro e w54 ⟨rfl, hk54⟩
    have hl := hl.below hk54
    have hv := hv.below hk54
    have hp := hp.below hk54
    have hx := hx.below hk54
    have hg := hg.below hk54
    have hz := hz.below hk54
    have ow := ow.below hk54 (Nat.le_refl _)
    have og := og.below hk54 (Nat.le_refl _)
    have oz := oz.below hk54 (Nat.le_refl _)
    have hB := hB.trans (hk54.mono hB.size)
    have z54 := hk54.size
    have hbb := hl
    obtain ⟨l0, l1, l2, l3, l4, l5, lf0, lf1, lf2, lf3, lf4, lf5⟩ := hbb
    have hbb := hv
    obtain ⟨v0, v1, v2, v3, vf0, vf1, vf2, vf3⟩ := hbb
    have hbb := hp
    obtain ⟨p0, p1, p2, p3, p4, p5, pf0, pf1, pf2, pf3, pf4, pf5⟩ := hbb
    have hbb := hx
    obtain ⟨x0, x1, x2, x3, x4, x5, xf0, xf1, xf2, xf3, xf4, xf5⟩ := hbb
    have hbb := hg
    obtain ⟨g0, g1, g2, g3, g4, g5, gf0, gf1, gf2, gf3, gf4, gf5⟩ := hbb
    have hbb := hz
    obtain ⟨z0, z1, z2, z3, z4, z5, zf0, zf1, zf2, zf3, zf4, zf5⟩ := hbb
    go_wp2
    go_ret
    exact ⟨rfl, hB⟩
  · simp only [hb, if_false]
    obtain ⟨l0, l1, l2, l3, l4, l5, lf0, lf1, lf2, lf3, lf4, lf5⟩ := hl
    go_wp2
    go_ret
    exact ⟨rfl, hB⟩

/-! ### The row of 'laws.FnExactPlayerAsk' -/
namespace FnExactPlayerAsk
open Go.ChangeShapes Go.WideShapes Go.ChangeAt Go.RowKit
open Go.ChangeMaps (open_string shut_string)
theorem own : ownKnob Try.prog.godebug = none := by kernel_rfl
theorem laidOut : laidOutB Try.prog = true := by kernel_rfl

set_option maxRecDepth 100000 in
set_option maxHeartbeats 1000000 in
theorem lifted (os : Os) (started : os.Started) (H : Type) (enc : TypeId × Value → H) :
    ReturnsInHanded {} Try.checked os 9 .any (Rows.fnExactPlayerAskSpec.pre6 enc Try.prog Try.f9 Rows.fnExactPlayerAskRow.domain false) (Rows.fnExactPlayerAskSpec.post enc Try.prog Try.f9 false true false false) := by
  refine returnsInHanded_of_change (C := Try.checked) own started (by kernel_rfl) Try.func9
    (ChangeSpec.witness6 (enc := enc) (C := Try.checked) false ⟨#[], #[.agg #[.int .i64 0, .int .i64 0, .int .i64 0, .int .i64 0, .int .i64 0, .slice none 0 0], .agg #[.int .i64 0, .int .i64 0, .int .i64 0, .int .i64 0, .int .i64 0]], []⟩ 8 (by kernel_rfl) (by kernel_rfl) (by kernel_rfl) (by kernel_rfl)) ?_
  intro W base args ds gs before hval0 hW hcnd _
  have hval : ∀ (j : Nat) t v, Try.f9.params[j]? = some t → args[j]? = some v → Value.okWide Try.prog W .any base t v := hval0
  have hW' := hW
  obtain ⟨p, q, hA0, hV, rfl, hfz, hnd⟩ := hW
  have hA : DataW.TrodAll enc Try.prog W 0 (fun _ => true) true Try.f9.params.toList args.toList ds p := hA0
  rw [Try.params9] at hA hval
  obtain ⟨v0, vs0, d0, ds0, p0, q0, hargs, rfl, rfl, h0, r0⟩ := trodAll_cons hA
  obtain ⟨v1, vs1, d1, ds1, p1, q1, rfl, rfl, rfl, h1, r1⟩ := trodAll_cons r0
  obtain ⟨rfl, rfl, rfl⟩ := trodAll_nil r1
  obtain rfl : args = #[v0, v1] := by cases args; simp_all
  obtain ⟨rfl, rfl⟩ := trodVars_none hV
  have k0 := h0
  have lt0 : ∀ x ∈ p0, x.block < W.heap.size := by obtain ⟨m, hm⟩ := k0; exact DataW.trod_lt m _ _ _ hm
  obtain ⟨rq0, A0, len0, cap0, z0, rfl, hl0, hc0, hm0, w0⟩ : ∃ (r : ReqV) (A : Option Addr) (len cap : Nat) (xs : List ReplyT), v0 = .agg #[.int .i64 r.1, .int .i64 r.2.1, .int .i64 r.2.2.1, .int .i64 r.2.2.2.1, .int .i64 r.2.2.2.2, .slice A len cap] ∧ len = xs.length ∧ len ≤ cap ∧ cap ≤ maxLen ∧ Sl encReply 4 W 0 W.heap.size A xs := by
    obtain ⟨fuel, hf⟩ := h0
    obtain ⟨cs, rfl, hcs⟩ := okWide_struct Try.underlying26 (hval 0 26 v0 rfl rfl)
    simp only [Value.cells] at hf
    exact trod_player hf
  have k1 := h1
  have lt1 : ∀ x ∈ p1, x.block < W.heap.size := by obtain ⟨m, hm⟩ := k1; exact DataW.trod_lt m _ _ _ hm
  obtain ⟨t1, rfl⟩ : ∃ t : ReqV, v1 = .agg #[.int .i64 t.1, .int .i64 t.2.1, .int .i64 t.2.2.1, .int .i64 t.2.2.2.1, .int .i64 t.2.2.2.2] := by
    obtain ⟨fuel, hf⟩ := h1
    obtain ⟨cs, rfl, hcs⟩ := okWide_struct Try.underlying23 (hval 1 23 v1 rfl rfl)
    simp only [Value.cells] at hf
    obtain ⟨t, ht, _⟩ := trod_int5 Try.underlying23 Try.underlying3 rfl (by kernel_rfl) (by kernel_rfl) (by kernel_rfl) hf
    refine ⟨t, ?_⟩
    cases cs
    simp only at ht
    subst ht
    rfl
  clear hA0 hval0
  refine (lawEx rq0 A0 len0 cap0 z0 t1 W hl0 hc0 hm0 w0).mono fun e W' ⟨he, bel⟩ => ?_
  subst he
  exact ⟨_, rfl, _, _, _, [], _, [], hW', trodAll_mk1 (shut_bool Try.underlying4 _), (trodAll_cons_mk (Below.trod laidOut (by kernel_rfl) (of_decide_eq_true (by kernel_rfl)) k0 bel lt0) (trodAll_cons_mk (Below.trod laidOut (by kernel_rfl) (of_decide_eq_true (by kernel_rfl)) k1 bel lt1) trodAll_mk0)), rfl, bel.frame _, fun h => by cases h⟩

theorem over : Rows.fnExactPlayerAskRow.holds Try.pinned (OpenSpec.ofChange Rows.fnExactPlayerAskSpec) :=
  OpenClaim.holds_of_wide 9 Try.f9 rfl rfl rfl rfl rfl rfl rfl ⟨rfl, rfl, rfl, rfl, rfl⟩ rfl rfl rfl rfl rfl (by kernel_rfl) Try.func9 (by kernel_rfl)
    (of_decide_eq_true (by kernel_rfl)) (by unfold Func.isWrapper; first | (rw [if_pos (by decide +kernel)]; kernel_rfl) | (rw [if_neg (by decide +kernel)]; exact ⟨rfl, rfl⟩))
    (fun os started H enc _ => lifted os started H enc)

theorem proved : Rows.FnExactPlayerAskSaid := over
end FnExactPlayerAsk
end Go.Proofs.Ytchofialljhojaa
