/-
  The walk of 'l13Sink': six ways round.
-/
import Derived.Test.YtaklfalkpkifmaaQF
namespace Go.Proofs.Ytaklfalkpkifmaa
open Go.RowKit Rg
set_option linter.unusedVariables false
set_option maxHeartbeats 4000000 in
theorem sink_c (g n c lo : Nat) (xs : List Tm) (w : World) (hn : n = xs.length) (hb : n ≤ 1048576) (ho : Own encT 3 31 w lo (.slice (some ⟨g, 0, none⟩) n c) xs) :
    Calls Try.prog 46 #[.slice (some ⟨g, 0, none⟩) n c] w fun e w' => e = .returned (.slice (some ⟨g, 0, none⟩) n c) ∧ Own encT 3 31 w' lo (.slice (some ⟨g, 0, none⟩) n c) (sinkAt 0 xs) ∧ Only w.heap.size (some g) w w' := by
  have hn' := hide hn
  clear hn
  go_enter Try.func46, Try.ntmps46
  go_wp2
  go_loopw [3, 4, 5] (fun iv _ _ wr => ∃ i : Nat, ∃ ys : List Tm, i ≤ n ∧ iv = .int .i64 i ∧ Hid (n = ys.length) ∧ Own encT 3 31 wr lo (.slice (some ⟨g, 0, none⟩) n c) ys ∧ Hid (sinkAt i ys = sinkAt 0 xs) ∧ Only w.heap.size (some g) w wr) (fun iv _ _ _ => n - (intOf iv).toNat)
  case atStart => exact ⟨0, xs, Nat.zero_le _, by go_num, hn', ho, hide rfl, Only.refl _ _ _⟩
  case round =>
    obtain ⟨i, ys, hi, rfl, hm, hor, he, hon⟩ := hrel
    by_cases hlt : 2 * i + 1 < n
    · have d1 : decide (2 * (i : Int) + 1 < (n : Int)) = true := by simp; omega
      have hl1 : 2 * i + 1 < ys.length := by have := hm.out; omega
      have hlx : i < ys.length := by omega
      have hpos := hor.addrAt (k := i) (by omega)
      by_cases h2 : 2 * i + 1 + 1 < n
      · have d2 : decide (2 * (i : Int) + 1 + 1 < (n : Int)) = true := by simp; omega
        have hl2 : 2 * i + 1 + 1 < ys.length := by have := hm.out; omega
        obtain ⟨p1, p2, p3⟩ := hor.tm hl2
        obtain ⟨q1, q2, q3⟩ := hor.tm hl1
        cases e1 : ltT ys[2 * i + 1 + 1] ys[2 * i + 1]
        · have hk : Hid (2 * i + 1 = kid i ys) := hide (by simp [kid, hl2, e1])
          have hlk : 2 * i + 1 < ys.length := by omega
          cases e2 : ltT ys[2 * i + 1] ys[i]
          · go_wp2
            refine wp_region_T (fun _ => True) [] [] [] [0, 1, 2, 3, 4, 5, 6, 7, 8, 9, 10, 11, 12, 13, 14, 15, 16] (by kernel_rfl) (by kernel_rfl) (by kernel_rfl) trivial ?_; simp only [pickL, List.getElem?_cons_succ, List.getElem?_cons_zero]
            go_wp2_with (first
              | ((with_reducible refine wpT_q0 ?_ ?_ ?_ ?_); (focus rfl); (focus rfl); (focus rfl); intro K hK) | ((with_reducible refine wpT_x0 ?_ ?_ ?_); (focus rfl); (focus rfl); intro K hK) | ((with_reducible refine wpT_noL ?_ ?_); (focus (first | exact wanted_no _ _ _ rfl rfl rfl | exact wanted_un _ _ _ rfl rfl rfl)); simp only [setO, List.set_cons_succ, List.set_cons_zero]) | ((with_reducible refine wpT_q1 ?_ ?_ ?_ ?_); (focus exact wanted_yes _ _ _ rfl rfl rfl); (focus rfl); (focus rfl); intro K hK) | ((with_reducible refine wpT_x1 ?_ ?_ ?_); (focus exact wanted_yes _ _ _ rfl rfl rfl); (focus rfl); intro K hK) | ((with_reducible refine wpT_nil ?_); try dsimp only)
              | (go_at_call 50; refine (less_t ys[2 * i + 1 + 1] ys[2 * i + 1] _).mono ?_; rintro e w1 ⟨rfl, hb1⟩; have hw1 : Only w.heap.size (some g) w w1 := hon.drew.trans ((Only.of_below hb1).mono hon.size); have hv1 : Only wr.heap.size (some g) wr w1 := (Only.refl _ _ _).drew.trans (Only.of_below hb1); have hor1 := hor.drew.below hb1 (Nat.le_refl _); dsimp only)
              | fail)
            obtain ⟨i1, i2, i3⟩ := hor1.tm hlx
            obtain ⟨k1, k2, k3⟩ := hor1.tm hlk
            refine wp_region_T (fun _ => True) [] [] [] [0, 1, 2, 3, 4, 5, 6, 7, 8, 9] (by kernel_rfl) (by kernel_rfl) (by kernel_rfl) trivial ?_; simp only [pickL, List.getElem?_cons_succ, List.getElem?_cons_zero]
            go_wp2_with (first
              | ((with_reducible refine wpT_q0 ?_ ?_ ?_ ?_); (focus rfl); (focus rfl); (focus rfl); intro K hK) | ((with_reducible refine wpT_x0 ?_ ?_ ?_); (focus rfl); (focus rfl); intro K hK) | ((with_reducible refine wpT_noL ?_ ?_); (focus (first | exact wanted_no _ _ _ rfl rfl rfl | exact wanted_un _ _ _ rfl rfl rfl)); simp only [setO, List.set_cons_succ, List.set_cons_zero]) | ((with_reducible refine wpT_q1 ?_ ?_ ?_ ?_); (focus exact wanted_yes _ _ _ rfl rfl rfl); (focus rfl); (focus rfl); intro K hK) | ((with_reducible refine wpT_x1 ?_ ?_ ?_); (focus exact wanted_yes _ _ _ rfl rfl rfl); (focus rfl); intro K hK) | ((with_reducible refine wpT_nil ?_); try dsimp only)
              | (go_at_call 50; refine (less_t ys[2 * i + 1] ys[i] _).mono ?_; rintro e w2 ⟨rfl, hb2⟩; have hw2 : Only w.heap.size (some g) w w2 := hw1.drew.trans ((Only.of_below hb2).mono hw1.size); have hv2 : Only wr.heap.size (some g) wr w2 := hv1.drew.trans ((Only.of_below hb2).mono hv1.size); have ho1 := hor1.drew.below hb2 (Nat.le_refl _); have f0 := ho1.frozen (i * 3); have f1 := ho1.frozen (i * 3 + 1); have f2 := ho1.frozen (i * 3 + 2); have y0 := ho1.frozen ((2 * i + 1) * 3); have y1 := ho1.frozen ((2 * i + 1) * 3 + 1); have y2 := ho1.frozen ((2 * i + 1) * 3 + 2); obtain ⟨i1, i2, i3⟩ := ho1.tm hlx; obtain ⟨k1, k2, k3⟩ := ho1.tm hlk; have hgs : g < w2.heap.size := (ho1.lt g rfl).2; have hgn : ¬ g = w2.heap.size := (by omega); have hgm : ¬ w2.heap.size = g := (by omega); dsimp only)
              | fail)
            go_ret
            refine ⟨rfl, ?_, hw2⟩
            rw [← he.out, sinkAt_stop hl1 hk.out e2]
            exact ho1
          · go_wp2
            refine wp_region_T (fun _ => True) [] [] [] [0, 1, 2, 3, 4, 5, 6, 7, 8, 9, 10, 11, 12, 13, 14, 15, 16] (by kernel_rfl) (by kernel_rfl) (by kernel_rfl) trivial ?_; simp only [pickL, List.getElem?_cons_succ, List.getElem?_cons_zero]
            go_wp2_with (first
              | ((with_reducible refine wpT_q0 ?_ ?_ ?_ ?_); (focus rfl); (focus rfl); (focus rfl); intro K hK) | ((with_reducible refine wpT_x0 ?_ ?_ ?_); (focus rfl); (focus rfl); intro K hK) | ((with_reducible refine wpT_noL ?_ ?_); (focus (first | exact wanted_no _ _ _ rfl rfl rfl | exact wanted_un _ _ _ rfl rfl rfl)); simp only [setO, List.set_cons_succ, List.set_cons_zero]) | ((with_reducible refine wpT_q1 ?_ ?_ ?_ ?_); (focus exact wanted_yes _ _ _ rfl rfl rfl); (focus rfl); (focus rfl); intro K hK) | ((with_reducible refine wpT_x1 ?_ ?_ ?_); (focus exact wanted_yes _ _ _ rfl rfl rfl); (focus rfl); intro K hK) | ((with_reducible refine wpT_nil ?_); try dsimp only)
              | (go_at_call 50; refine (less_t ys[2 * i + 1 + 1] ys[2 * i + 1] _).mono ?_; rintro e w1 ⟨rfl, hb1⟩; have hw1 : Only w.heap.size (some g) w w1 := hon.drew.trans ((Only.of_below hb1).mono hon.size); have hv1 : Only wr.heap.size (some g) wr w1 := (Only.refl _ _ _).drew.trans (Only.of_below hb1); have hor1 := hor.drew.below hb1 (Nat.le_refl _); dsimp only)
              | fail)
            obtain ⟨i1, i2, i3⟩ := hor1.tm hlx
            obtain ⟨k1, k2, k3⟩ := hor1.tm hlk
            refine wp_region_T (fun _ => True) [] [] [] [0, 1, 2, 3, 4, 5, 6, 7, 8, 9] (by kernel_rfl) (by kernel_rfl) (by kernel_rfl) trivial ?_; simp only [pickL, List.getElem?_cons_succ, List.getElem?_cons_zero]
            go_wp2_with (first
              | ((with_reducible refine wpT_q0 ?_ ?_ ?_ ?_); (focus rfl); (focus rfl); (focus rfl); intro K hK) | ((with_reducible refine wpT_x0 ?_ ?_ ?_); (focus rfl); (focus rfl); intro K hK) | ((with_reducible refine wpT_noL ?_ ?_); (focus (first | exact wanted_no _ _ _ rfl rfl rfl | exact wanted_un _ _ _ rfl rfl rfl)); simp only [setO, List.set_cons_succ, List.set_cons_zero]) | ((with_reducible refine wpT_q1 ?_ ?_ ?_ ?_); (focus exact wanted_yes _ _ _ rfl rfl rfl); (focus rfl); (focus rfl); intro K hK) | ((with_reducible refine wpT_x1 ?_ ?_ ?_); (focus exact wanted_yes _ _ _ rfl rfl rfl); (focus rfl); intro K hK) | ((with_reducible refine wpT_nil ?_); try dsimp only)
              | (go_at_call 50; refine (less_t ys[2 * i + 1] ys[i] _).mono ?_; rintro e w2 ⟨rfl, hb2⟩; have hw2 : Only w.heap.size (some g) w w2 := hw1.drew.trans ((Only.of_below hb2).mono hw1.size); have hv2 : Only wr.heap.size (some g) wr w2 := hv1.drew.trans ((Only.of_below hb2).mono hv1.size); have ho1 := hor1.drew.below hb2 (Nat.le_refl _); have f0 := ho1.frozen (i * 3); have f1 := ho1.frozen (i * 3 + 1); have f2 := ho1.frozen (i * 3 + 2); have y0 := ho1.frozen ((2 * i + 1) * 3); have y1 := ho1.frozen ((2 * i + 1) * 3 + 1); have y2 := ho1.frozen ((2 * i + 1) * 3 + 2); obtain ⟨i1, i2, i3⟩ := ho1.tm hlx; obtain ⟨k1, k2, k3⟩ := ho1.tm hlk; have hgs : g < w2.heap.size := (ho1.lt g rfl).2; have hgn : ¬ g = w2.heap.size := (by omega); have hgm : ¬ w2.heap.size = g := (by omega); dsimp only)
              | fail)
            go_roundw
            case rel =>
              refine ⟨2 * i + 1, swap ys i (2 * i + 1) hlx hlk, by omega, by go_num, hide (by rw [swap_len]; exact hm.out), ?_, hide ((sinkAt_step hl1 hk.out e2).symm.trans he.out), ?_⟩
              · exact (ho1.swapTm (by omega) (by omega) hlx hlk).alloc _
              · exact ((hw2.putTm ys[2 * i + 1]).putTm ys[i]).allocs _
            case measure => simp [intOf]; omega
        · have hk : Hid (2 * i + 1 + 1 = kid i ys) := hide (by simp [kid, hl2, e1])
          have hlk : 2 * i + 1 + 1 < ys.length := by omega
          cases e2 : ltT ys[2 * i + 1 + 1] ys[i]
          · go_wp2
            refine wp_region_T (fun _ => True) [] [] [] [0, 1, 2, 3, 4, 5, 6, 7, 8, 9, 10, 11, 12, 13, 14, 15, 16] (by kernel_rfl) (by kernel_rfl) (by kernel_rfl) trivial ?_; simp only [pickL, List.getElem?_cons_succ, List.getElem?_cons_zero]
            go_wp2_with (first
              | ((with_reducible refine wpT_q0 ?_ ?_ ?_ ?_); (focus rfl); (focus rfl); (focus rfl); intro K hK) | ((with_reducible refine wpT_x0 ?_ ?_ ?_); (focus rfl); (focus rfl); intro K hK) | ((with_reducible refine wpT_noL ?_ ?_); (focus (first | exact wanted_no _ _ _ rfl rfl rfl | exact wanted_un _ _ _ rfl rfl rfl)); simp only [setO, List.set_cons_succ, List.set_cons_zero]) | ((with_reducible refine wpT_q1 ?_ ?_ ?_ ?_); (focus exact wanted_yes _ _ _ rfl rfl rfl); (focus rfl); (focus rfl); intro K hK) | ((with_reducible refine wpT_x1 ?_ ?_ ?_); (focus exact wanted_yes _ _ _ rfl rfl rfl); (focus rfl); intro K hK) | ((with_reducible refine wpT_nil ?_); try dsimp only)
              | (go_at_call 50; refine (less_t ys[2 * i + 1 + 1] ys[2 * i + 1] _).mono ?_; rintro e w1 ⟨rfl, hb1⟩; have hw1 : Only w.heap.size (some g) w w1 := hon.drew.trans ((Only.of_below hb1).mono hon.size); have hv1 : Only wr.heap.size (some g) wr w1 := (Only.refl _ _ _).drew.trans (Only.of_below hb1); have hor1 := hor.drew.below hb1 (Nat.le_refl _); dsimp only)
              | fail)
            obtain ⟨i1, i2, i3⟩ := hor1.tm hlx
            obtain ⟨k1, k2, k3⟩ := hor1.tm hlk
            refine wp_region_T (fun _ => True) [] [] [] [0, 1, 2, 3, 4, 5, 6, 7, 8, 9] (by kernel_rfl) (by kernel_rfl) (by kernel_rfl) trivial ?_; simp only [pickL, List.getElem?_cons_succ, List.getElem?_cons_zero]
            go_wp2_with (first
              | ((with_reducible refine wpT_q0 ?_ ?_ ?_ ?_); (focus rfl); (focus rfl); (focus rfl); intro K hK) | ((with_reducible refine wpT_x0 ?_ ?_ ?_); (focus rfl); (focus rfl); intro K hK) | ((with_reducible refine wpT_noL ?_ ?_); (focus (first | exact wanted_no _ _ _ rfl rfl rfl | exact wanted_un _ _ _ rfl rfl rfl)); simp only [setO, List.set_cons_succ, List.set_cons_zero]) | ((with_reducible refine wpT_q1 ?_ ?_ ?_ ?_); (focus exact wanted_yes _ _ _ rfl rfl rfl); (focus rfl); (focus rfl); intro K hK) | ((with_reducible refine wpT_x1 ?_ ?_ ?_); (focus exact wanted_yes _ _ _ rfl rfl rfl); (focus rfl); intro K hK) | ((with_reducible refine wpT_nil ?_); try dsimp only)
              | (go_at_call 50; refine (less_t ys[2 * i + 1 + 1] ys[i] _).mono ?_; rintro e w2 ⟨rfl, hb2⟩; have hw2 : Only w.heap.size (some g) w w2 := hw1.drew.trans ((Only.of_below hb2).mono hw1.size); have hv2 : Only wr.heap.size (some g) wr w2 := hv1.drew.trans ((Only.of_below hb2).mono hv1.size); have ho1 := hor1.drew.below hb2 (Nat.le_refl _); have f0 := ho1.frozen (i * 3); have f1 := ho1.frozen (i * 3 + 1); have f2 := ho1.frozen (i * 3 + 2); have y0 := ho1.frozen ((2 * i + 1 + 1) * 3); have y1 := ho1.frozen ((2 * i + 1 + 1) * 3 + 1); have y2 := ho1.frozen ((2 * i + 1 + 1) * 3 + 2); obtain ⟨i1, i2, i3⟩ := ho1.tm hlx; obtain ⟨k1, k2, k3⟩ := ho1.tm hlk; have hgs : g < w2.heap.size := (ho1.lt g rfl).2; have hgn : ¬ g = w2.heap.size := (by omega); have hgm : ¬ w2.heap.size = g := (by omega); dsimp only)
              | fail)
            go_ret
            refine ⟨rfl, ?_, hw2⟩
            rw [← he.out, sinkAt_stop hl1 hk.out e2]
            exact ho1
          · go_wp2
            refine wp_region_T (fun _ => True) [] [] [] [0, 1, 2, 3, 4, 5, 6, 7, 8, 9, 10, 11, 12, 13, 14, 15, 16] (by kernel_rfl) (by kernel_rfl) (by kernel_rfl) trivial ?_; simp only [pickL, List.getElem?_cons_succ, List.getElem?_cons_zero]
            go_wp2_with (first
              | ((with_reducible refine wpT_q0 ?_ ?_ ?_ ?_); (focus rfl); (focus rfl); (focus rfl); intro K hK) | ((with_reducible refine wpT_x0 ?_ ?_ ?_); (focus rfl); (focus rfl); intro K hK) | ((with_reducible refine wpT_noL ?_ ?_); (focus (first | exact wanted_no _ _ _ rfl rfl rfl | exact wanted_un _ _ _ rfl rfl rfl)); simp only [setO, List.set_cons_succ, List.set_cons_zero]) | ((with_reducible refine wpT_q1 ?_ ?_ ?_ ?_); (focus exact wanted_yes _ _ _ rfl rfl rfl); (focus rfl); (focus rfl); intro K hK) | ((with_reducible refine wpT_x1 ?_ ?_ ?_); (focus exact wanted_yes _ _ _ rfl rfl rfl); (focus rfl); intro K hK) | ((with_reducible refine wpT_nil ?_); try dsimp only)
              | (go_at_call 50; refine (less_t ys[2 * i + 1 + 1] ys[2 * i + 1] _).mono ?_; rintro e w1 ⟨rfl, hb1⟩; have hw1 : Only w.heap.size (some g) w w1 := hon.drew.trans ((Only.of_below hb1).mono hon.size); have hv1 : Only wr.heap.size (some g) wr w1 := (Only.refl _ _ _).drew.trans (Only.of_below hb1); have hor1 := hor.drew.below hb1 (Nat.le_refl _); dsimp only)
              | fail)
            obtain ⟨i1, i2, i3⟩ := hor1.tm hlx
            obtain ⟨k1, k2, k3⟩ := hor1.tm hlk
            refine wp_region_T (fun _ => True) [] [] [] [0, 1, 2, 3, 4, 5, 6, 7, 8, 9] (by kernel_rfl) (by kernel_rfl) (by kernel_rfl) trivial ?_; simp only [pickL, List.getElem?_cons_succ, List.getElem?_cons_zero]
            go_wp2_with (first
              | ((with_reducible refine wpT_q0 ?_ ?_ ?_ ?_); (focus rfl); (focus rfl); (focus rfl); intro K hK) | ((with_reducible refine wpT_x0 ?_ ?_ ?_); (focus rfl); (focus rfl); intro K hK) | ((with_reducible refine wpT_noL ?_ ?_); (focus (first | exact wanted_no _ _ _ rfl rfl rfl | exact wanted_un _ _ _ rfl rfl rfl)); simp only [setO, List.set_cons_succ, List.set_cons_zero]) | ((with_reducible refine wpT_q1 ?_ ?_ ?_ ?_); (focus exact wanted_yes _ _ _ rfl rfl rfl); (focus rfl); (focus rfl); intro K hK) | ((with_reducible refine wpT_x1 ?_ ?_ ?_); (focus exact wanted_yes _ _ _ rfl rfl rfl); (focus rfl); intro K hK) | ((with_reducible refine wpT_nil ?_); try dsimp only)
              | (go_at_call 50; refine (less_t ys[2 * i + 1 + 1] ys[i] _).mono ?_; rintro e w2 ⟨rfl, hb2⟩; have hw2 : Only w.heap.size (some g) w w2 := hw1.drew.trans ((Only.of_below hb2).mono hw1.size); have hv2 : Only wr.heap.size (some g) wr w2 := hv1.drew.trans ((Only.of_below hb2).mono hv1.size); have ho1 := hor1.drew.below hb2 (Nat.le_refl _); have f0 := ho1.frozen (i * 3); have f1 := ho1.frozen (i * 3 + 1); have f2 := ho1.frozen (i * 3 + 2); have y0 := ho1.frozen ((2 * i + 1 + 1) * 3); have y1 := ho1.frozen ((2 * i + 1 + 1) * 3 + 1); have y2 := ho1.frozen ((2 * i + 1 + 1) * 3 + 2); obtain ⟨i1, i2, i3⟩ := ho1.tm hlx; obtain ⟨k1, k2, k3⟩ := ho1.tm hlk; have hgs : g < w2.heap.size := (ho1.lt g rfl).2; have hgn : ¬ g = w2.heap.size := (by omega); have hgm : ¬ w2.heap.size = g := (by omega); dsimp only)
              | fail)
            go_roundw
            case rel =>
              refine ⟨2 * i + 1 + 1, swap ys i (2 * i + 1 + 1) hlx hlk, by omega, by go_num, hide (by rw [swap_len]; exact hm.out), ?_, hide ((sinkAt_step hl1 hk.out e2).symm.trans he.out), ?_⟩
              · exact (ho1.swapTm (by omega) (by omega) hlx hlk).alloc _
              · exact ((hw2.putTm ys[2 * i + 1 + 1]).putTm ys[i]).allocs _
            case measure => simp [intOf]; omega
      · have d2 : decide (2 * (i : Int) + 1 + 1 < (n : Int)) = false := by simp; omega
        have hl2 : ¬ 2 * i + 1 + 1 < ys.length := by have := hm.out; omega
        have hk : Hid (2 * i + 1 = kid i ys) := hide (by simp [kid, hl2])
        have hlk : 2 * i + 1 < ys.length := by omega
        cases e2 : ltT ys[2 * i + 1] ys[i]
        · go_wp2
          refine wp_region_T (fun _ => True) [] [] [] [0, 1, 2, 3, 4, 5, 6, 7, 8, 9, 10, 11, 12, 13, 14, 15, 16] (by kernel_rfl) (by kernel_rfl) (by kernel_rfl) trivial ?_; simp only [pickL, List.getElem?_cons_succ, List.getElem?_cons_zero]
          have hw1 : Only w.heap.size (some g) w wr.drew := hon.drew
          have hv1 : Only wr.heap.size (some g) wr wr.drew := (Only.refl _ _ _).drew
          have hor1 := hor.drew
          go_wp2_with (first
            | ((with_reducible refine wpT_q0 ?_ ?_ ?_ ?_); (focus rfl); (focus rfl); (focus rfl); intro K hK) | ((with_reducible refine wpT_x0 ?_ ?_ ?_); (focus rfl); (focus rfl); intro K hK) | ((with_reducible refine wpT_noL ?_ ?_); (focus (first | exact wanted_no _ _ _ rfl rfl rfl | exact wanted_un _ _ _ rfl rfl rfl)); simp only [setO, List.set_cons_succ, List.set_cons_zero]) | ((with_reducible refine wpT_q1 ?_ ?_ ?_ ?_); (focus exact wanted_yes _ _ _ rfl rfl rfl); (focus rfl); (focus rfl); intro K hK) | ((with_reducible refine wpT_x1 ?_ ?_ ?_); (focus exact wanted_yes _ _ _ rfl rfl rfl); (focus rfl); intro K hK) | ((with_reducible refine wpT_nil ?_); try dsimp only)
            | fail)
          obtain ⟨i1, i2, i3⟩ := hor1.tm hlx
          obtain ⟨k1, k2, k3⟩ := hor1.tm hlk
          refine wp_region_T (fun _ => True) [] [] [] [0, 1, 2, 3, 4, 5, 6, 7, 8, 9] (by kernel_rfl) (by kernel_rfl) (by kernel_rfl) trivial ?_; simp only [pickL, List.getElem?_cons_succ, List.getElem?_cons_zero]
          go_wp2_with (first
            | ((with_reducible refine wpT_q0 ?_ ?_ ?_ ?_); (focus rfl); (focus rfl); (focus rfl); intro K hK) | ((with_reducible refine wpT_x0 ?_ ?_ ?_); (focus rfl); (focus rfl); intro K hK) | ((with_reducible refine wpT_noL ?_ ?_); (focus (first | exact wanted_no _ _ _ rfl rfl rfl | exact wanted_un _ _ _ rfl rfl rfl)); simp only [setO, List.set_cons_succ, List.set_cons_zero]) | ((with_reducible refine wpT_q1 ?_ ?_ ?_ ?_); (focus exact wanted_yes _ _ _ rfl rfl rfl); (focus rfl); (focus rfl); intro K hK) | ((with_reducible refine wpT_x1 ?_ ?_ ?_); (focus exact wanted_yes _ _ _ rfl rfl rfl); (focus rfl); intro K hK) | ((with_reducible refine wpT_nil ?_); try dsimp only)
            | (go_at_call 50; refine (less_t ys[2 * i + 1] ys[i] _).mono ?_; rintro e w2 ⟨rfl, hb2⟩; have hw2 : Only w.heap.size (some g) w w2 := hw1.drew.trans ((Only.of_below hb2).mono hw1.size); have hv2 : Only wr.heap.size (some g) wr w2 := hv1.drew.trans ((Only.of_below hb2).mono hv1.size); have ho1 := hor1.drew.below hb2 (Nat.le_refl _); have f0 := ho1.frozen (i * 3); have f1 := ho1.frozen (i * 3 + 1); have f2 := ho1.frozen (i * 3 + 2); have y0 := ho1.frozen ((2 * i + 1) * 3); have y1 := ho1.frozen ((2 * i + 1) * 3 + 1); have y2 := ho1.frozen ((2 * i + 1) * 3 + 2); obtain ⟨i1, i2, i3⟩ := ho1.tm hlx; obtain ⟨k1, k2, k3⟩ := ho1.tm hlk; have hgs : g < w2.heap.size := (ho1.lt g rfl).2; have hgn : ¬ g = w2.heap.size := (by omega); have hgm : ¬ w2.heap.size = g := (by omega); dsimp only)
            | fail)
          go_ret
          refine ⟨rfl, ?_, hw2⟩
          rw [← he.out, sinkAt_stop hl1 hk.out e2]
          exact ho1
        · go_wp2
          refine wp_region_T (fun _ => True) [] [] [] [0, 1, 2, 3, 4, 5, 6, 7, 8, 9, 10, 11, 12, 13, 14, 15, 16] (by kernel_rfl) (by kernel_rfl) (by kernel_rfl) trivial ?_; simp only [pickL, List.getElem?_cons_succ, List.getElem?_cons_zero]
          have hw1 : Only w.heap.size (some g) w wr.drew := hon.drew
          have hv1 : Only wr.heap.size (some g) wr wr.drew := (Only.refl _ _ _).drew
          have hor1 := hor.drew
          go_wp2_with (first
            | ((with_reducible refine wpT_q0 ?_ ?_ ?_ ?_); (focus rfl); (focus rfl); (focus rfl); intro K hK) | ((with_reducible refine wpT_x0 ?_ ?_ ?_); (focus rfl); (focus rfl); intro K hK) | ((with_reducible refine wpT_noL ?_ ?_); (focus (first | exact wanted_no _ _ _ rfl rfl rfl | exact wanted_un _ _ _ rfl rfl rfl)); simp only [setO, List.set_cons_succ, List.set_cons_zero]) | ((with_reducible refine wpT_q1 ?_ ?_ ?_ ?_); (focus exact wanted_yes _ _ _ rfl rfl rfl); (focus rfl); (focus rfl); intro K hK) | ((with_reducible refine wpT_x1 ?_ ?_ ?_); (focus exact wanted_yes _ _ _ rfl rfl rfl); (focus rfl); intro K hK) | ((with_reducible refine wpT_nil ?_); try dsimp only)
            | fail)
          obtain ⟨i1, i2, i3⟩ := hor1.tm hlx
          obtain ⟨k1, k2, k3⟩ := hor1.tm hlk
          refine wp_region_T (fun _ => True) [] [] [] [0, 1, 2, 3, 4, 5, 6, 7, 8, 9] (by kernel_rfl) (by kernel_rfl) (by kernel_rfl) trivial ?_; simp only [pickL, List.getElem?_cons_succ, List.getElem?_cons_zero]
          go_wp2_with (first
            | ((with_reducible refine wpT_q0 ?_ ?_ ?_ ?_); (focus rfl); (focus rfl); (focus rfl); intro K hK) | ((with_reducible refine wpT_x0 ?_ ?_ ?_); (focus rfl); (focus rfl); intro K hK) | ((with_reducible refine wpT_noL ?_ ?_); (focus (first | exact wanted_no _ _ _ rfl rfl rfl | exact wanted_un _ _ _ rfl rfl rfl)); simp only [setO, List.set_cons_succ, List.set_cons_zero]) | ((with_reducible refine wpT_q1 ?_ ?_ ?_ ?_); (focus exact wanted_yes _ _ _ rfl rfl rfl); (focus rfl); (focus rfl); intro K hK) | ((with_reducible refine wpT_x1 ?_ ?_ ?_); (focus exact wanted_yes _ _ _ rfl rfl rfl); (focus rfl); intro K hK) | ((with_reducible refine wpT_nil ?_); try dsimp only)
            | (go_at_call 50; refine (less_t ys[2 * i + 1] ys[i] _).mono ?_; rintro e w2 ⟨rfl, hb2⟩; have hw2 : Only w.heap.size (some g) w w2 := hw1.drew.trans ((Only.of_below hb2).mono hw1.size); have hv2 : Only wr.heap.size (some g) wr w2 := hv1.drew.trans ((Only.of_below hb2).mono hv1.size); have ho1 := hor1.drew.below hb2 (Nat.le_refl _); have f0 := ho1.frozen (i * 3); have f1 := ho1.frozen (i * 3 + 1); have f2 := ho1.frozen (i * 3 + 2); have y0 := ho1.frozen ((2 * i + 1) * 3); have y1 := ho1.frozen ((2 * i + 1) * 3 + 1); have y2 := ho1.frozen ((2 * i + 1) * 3 + 2); obtain ⟨i1, i2, i3⟩ := ho1.tm hlx; obtain ⟨k1, k2, k3⟩ := ho1.tm hlk; have hgs : g < w2.heap.size := (ho1.lt g rfl).2; have hgn : ¬ g = w2.heap.size := (by omega); have hgm : ¬ w2.heap.size = g := (by omega); dsimp only)
            | fail)
          go_roundw
          case rel =>
            refine ⟨2 * i + 1, swap ys i (2 * i + 1) hlx hlk, by omega, by go_num, hide (by rw [swap_len]; exact hm.out), ?_, hide ((sinkAt_step hl1 hk.out e2).symm.trans he.out), ?_⟩
            · exact (ho1.swapTm (by omega) (by omega) hlx hlk).alloc _
            · exact ((hw2.putTm ys[2 * i + 1]).putTm ys[i]).allocs _
          case measure => simp [intOf]; omega
    · have d1 : decide (2 * (i : Int) + 1 < (n : Int)) = false := by simp; omega
      have hl1 : ¬ 2 * i + 1 < ys.length := by have := hm.out; omega
      go_wp2
      go_ret
      refine ⟨rfl, ?_, hon⟩
      rw [← he.out, sinkAt_end hl1]
      exact hor
end Go.Proofs.Ytaklfalkpkifmaa
