/-
  'FnPickAll' returns true, for every code: what is picked at a place was claimed there, of the latest view.
  Conditions: none.
-/
import Derived.Test.YtphlnihmfgmecaaNVb
import Derived.Test.YtphlnihmfgmecaaNSf
import Derived.Test.YtphlnihmfgmecaaRegG
namespace Go.Proofs.Ytphlnihmfgmecaa
open Go.RowKit Rg
set_option linter.unusedVariables false
set_option linter.unusedSimpArgs false

set_option maxRecDepth 100000 in
set_option maxHeartbeats 4000000 in
theorem lawPickAllD (A : Option Addr) (n c : Nat) (bs : List Int) (w : World) (hn : n = bs.length) (hc : n ≤ c) (hcm : c ≤ maxLen) (hs : Sl encU 1 w 0 w.heap.size A bs) (hb : ∀ b ∈ bs, 0 ≤ b ∧ b < 256) :
    Calls Try.prog 3 #[.slice A n c] w fun e w' => e = .returned (.bool true) ∧ Below w.heap.size w w' := by
  have hn' := hide hn
  have hb' := hide hb
  clear hn hb
  by_cases hbig : 1048576 < n
  · have d1 : decide (1048576 < (n : Int)) = true := by simp; omega
    go_enter Try.func3, Try.ntmps3
    go_wp2
    go_ret
    exact ⟨rfl, Below.refl _ _⟩
  have d1 : decide (1048576 < (n : Int)) = false := by simp; omega
  go_enter Try.func3, Try.ntmps3
  go_wp2_with fail
  refine (DrawPickAll_c A n c bs w hn'.out hc hcm hs hb'.out).mono ?_
  rintro e w1 ⟨A1, n1, c1, ts, rfl, hg1, hlen, hB1⟩
  have hcap := hg1.cap
  have hmax := hg1.max
  unfold maxLen at hmax
  have hl' := hide hg1.len
  clear d1
  go_wp2_with fail
  refine (PickAll_c A1 n1 c1 _ _ ts w1 hg1 (Nat.le_refl _)).mono ?_
  rintro e w2 ⟨v2, rfl, ho2, hb2⟩
  generalize hxs : (if okVs ts then picksL ts else []) = xs at *
  have hxs' := hide hxs
  clear hxs
  obtain ⟨Ag, cg, rfl, hcg, hcm2, _⟩ := ho2.form
  unfold maxLen at hcm2
  have hB2 := hB1.trans (hb2.mono hB1.size)
  have hg2 := hg1.below vote_kept hb2 (Nat.le_refl _)
  have hz2 := hb2.size
  have hspec := hide (specPickAll_c A1 n1 c1 _ _ ts w2 hg2 hz2)
  go_wp2_with fail
  refine (hspec.out).mono ?_
  rintro e w3 ⟨v3, rfl, ho3, hb3⟩
  rw [hxs'.out] at ho3
  obtain ⟨A3, c3, rfl, _, _, _⟩ := ho3.form
  have hB3 := hB2.trans (hb3.mono hB2.size)
  have ho23 := ho2.below hb3 (Nat.le_refl _)
  have hg3 := hg2.below vote_kept hb3 hz2
  have hz3 := hb3.size
  go_wp2_with fail
  refine (wpReqs_same ho23 ho3).mono ?_
  rintro e w4 ⟨rfl, hb4⟩
  have hB4 := hB3.trans (hb4.mono hB3.size)
  have ho4 := ho23.below hb4 (Nat.le_refl _)
  have hg4 := hg3.below vote_kept hb4 (by omega)
  have hz4 := hb4.size
  clear hspec ho2 ho3 ho23 hb2 hb3 hb4 hg1 hg2 hg3
  go_wp2
  go_loopw [5, 6, 7, 8, 9] (fun iv _ _ _ _ wr => ∃ i : Nat, i ≤ xs.length ∧ iv = .int .i64 (i : Int) ∧ Below w4.heap.size w4 wr) (fun iv _ _ _ _ _ => xs.length - (intOf iv).toNat)
  case atStart => exact ⟨0, Nat.zero_le _, rfl, Below.refl _ _⟩
  case round =>
    obtain ⟨i, hi, rfl, hbr⟩ := hrel
    by_cases hlt : i < xs.length
    · have hok : Hid (okVs ts) := hide (by
        by_cases h : okVs ts
        · exact h
        · have := hxs'.out
          rw [if_neg h] at this
          rw [← this] at hlt
          simp at hlt)
      have hxl : Hid (xs = picksL ts) := hide (by rw [← hxs'.out, if_pos hok.out])
      have hget : Hid (xs[i] = pickOf (clsOf ts) ((i : Int) + 1)) := hide (by
        have h := hxl.out
        subst h
        exact picksL_get ts i hlt)
      have hlast : Hid (xs.length = (topOf (clsOf ts)).toNat) := hide (by rw [hxl.out, picksL_len])
      obtain ⟨gb, hgb, _, _⟩ := ho4.addrAt hlt
      go_wp2
      go_loopw [6, 7, 8, 9] (fun bv bb kv _ wr2 => ∃ k : Nat, k ≤ n1 ∧ kv = .int .i64 (k : Int) ∧ bv = .int .i64 (bestS ((i : Int) + 1) xs[i] (clsOf (ts.take k))).1 ∧ bb = .bool (bestS ((i : Int) + 1) xs[i] (clsOf (ts.take k))).2 ∧ Below w4.heap.size w4 wr2) (fun _ _ kv _ _ => n1 - (intOf kv).toNat)
      case atStart => exact ⟨0, Nat.zero_le _, rfl, rfl, rfl, hbr⟩
      case round =>
        obtain ⟨k, hk, rfl, rfl, rfl, hbs⟩ := hrel
        by_cases hltk : k < n1
        · have hlx : k < ts.length := by have := hl'.out; omega
          obtain ⟨b', off, rfl, hlo, hbh⟩ := hg4.addr hlx
          obtain ⟨A5, n5, c5, a0, a1, r0⟩ := hg4.vote hlx
          have hm' := hide r0.len
          have hm1 := r0.cap
          have hm2 := r0.max
          unfold maxLen at hm2
          have hseen := hide (seen_all hlx hm'.out)
          have hz0 := hide (seen_zero ts k hlx)
          rw [← hz0.out]
          go_wp2
          go_loopw [6, 7, 9] (fun bv bb mv wr3 => ∃ m : Nat, m ≤ n5 ∧ mv = .int .i64 (m : Int) ∧ bv = .int .i64 (bestS ((i : Int) + 1) xs[i] (seen ts k m hlx)).1 ∧ bb = .bool (bestS ((i : Int) + 1) xs[i] (seen ts k m hlx)).2 ∧ Below w4.heap.size w4 wr3) (fun _ _ mv _ => n5 - (intOf mv).toNat)
          case atStart => exact ⟨0, Nat.zero_le _, rfl, rfl, rfl, hbs⟩
          case round =>
            obtain ⟨m, hm, rfl, rfl, rfl, hbt⟩ := hrel
            have a1t := keepc hbt a1
            by_cases hltm : m < n5
            · have hmx : m < ts[k].2.length := by have := hm'.out; omega
              obtain ⟨b2, off2, rfl, hlo2, hbh2⟩ := r0.addr hmx
              obtain ⟨p0, p1, p2, p3, p4, p5, p6⟩ := (r0.below (flat_kept _) hbt (by omega)).claim hmx
              have hst : Hid (bestS ((i : Int) + 1) xs[i] (seen ts k (m + 1) hlx) = bestStep ((i : Int) + 1) xs[i] (bestS ((i : Int) + 1) xs[i] (seen ts k m hlx)) ts[k].2[m]) := hide (by rw [seen_succ ts k m hlx hmx, bestS_snoc])
              generalize hs0 : bestS ((i : Int) + 1) xs[i] (seen ts k m hlx) = s0 at *
              clear hs0
              obtain ⟨bv, bb⟩ := s0
              try dsimp only at hst
              have hA := (Below.refl wr.heap.size wr).alloc (Nat.le_refl _) (.cells #[.int .i64 ts[k].2[m].1, .int .i64 ts[k].2[m].2.1, .int .i64 ts[k].2[m].2.2.1, .int .i64 ts[k].2[m].2.2.2.1, .int .i64 ts[k].2[m].2.2.2.2.1, .int .i64 ts[k].2[m].2.2.2.2.2.1, .int .i64 ts[k].2[m].2.2.2.2.2.2] 34)
              have hbA := hbt.trans (hA.mono hbt.size)
              have hq := fun W => run_eq_req ts[k].2[m].2.2 xs[i] W
              subst hgb
              obtain ⟨q0, q1, q2, q3, q4⟩ := ((ho4.slAt encReq_len).2.2.below hbt (Nat.le_refl _)).getReq hlt
              simp only [Nat.zero_add] at q0 q1 q2 q3 q4
              have hgl : gb < wr.heap.size := lt_of_cell q0
              cases e1 : (ts[k].2[m].1 != (i : Int) + 1)
              · have e1h : Hid (ts[k].2[m].1 = (i : Int) + 1) := hide (by simpa using e1)
                cases e2 : decide (bv < ts[k].2[m].2.1)
                · have e2h := hide e2
                  cases bb
                  · cases e4 : (ts[k].2[m].2.1 == bv)
                    · have e4h : Hid (decide (ts[k].2[m].2.1 = bv) = false) := hide (by simpa using e4)
                      have hnew : Hid (bestStep ((i : Int) + 1) xs[i] (bv, false) ts[k].2[m] = (bv, false)) := hide (by unfold bestStep; rw [if_pos e1h.out, if_neg (of_decide_eq_false e2h.out)]; simp [e4h.out])
                      go_wp2
                      refine wp_region_T (fun _ => True) [] [] [] [0, 1, 2, 3, 4, 5, 6, 7, 8, 9, 10, 11, 12, 13, 14, 15, 16] (by kernel_rfl) (by kernel_rfl) (by kernel_rfl) trivial ?_; simp only [pickL, List.getElem?_cons_succ, List.getElem?_cons_zero]
                      go_wp2_with (first
                        | (with_reducible refine Since.and_ ?_ ?_; (focus (repeat (first | (with_reducible exact Since.refl _) | assumption | (with_reducible refine Since.drewR ?_) | (with_reducible refine Since.alloc ?_ _) | ((with_reducible apply Since.below); rotate_left; (focus assumption))))); intro hS) | ((with_reducible refine wpT_noL ?_ ?_); (focus (first | exact wanted_no _ _ _ rfl rfl rfl | exact wanted_un _ _ _ rfl rfl rfl)); simp only [setO, List.set_cons_succ, List.set_cons_zero]) | ((with_reducible refine wpT_q0 ?_ ?_ ?_ ?_); (focus rfl); (focus rfl); (focus rfl); intro K hK) | ((with_reducible apply wpT_l); (focus rfl); (focus rfl); (focus rfl); (focus rfl); (focus (first | exact Since.drew _ | assumption)); (focus (simp <;> omega)); (focus go_simp); intro K hK) | ((with_reducible apply wpT_lw); (focus exact wanted_yes _ _ _ rfl rfl rfl); (focus rfl); (focus rfl); (focus rfl); (focus (first | exact Since.drew _ | assumption)); (focus (simp <;> omega)); (focus go_simp); intro K hK) | ((with_reducible refine wpT_xs0 ?_ ?_ ?_); (focus rfl); (focus rfl); intro K hK) | ((with_reducible refine wpT_q1 ?_ ?_ ?_ ?_); (focus exact wanted_yes _ _ _ rfl rfl rfl); (focus rfl); (focus rfl); intro K hK) | ((with_reducible refine wpT_xs1 ?_ ?_ ?_); (focus exact wanted_yes _ _ _ rfl rfl rfl); (focus rfl); intro K hK) | ((with_reducible refine wpT_nil ?_); try dsimp only)
                        | fail)
                      go_roundw
                      case rel => exact ⟨m + 1, by omega, by go_num, by rw [hst.out, hnew.out], by rw [hst.out, hnew.out], hbA.drew⟩
                      case measure => simp [intOf]; omega
                    · have e4h : Hid (decide (ts[k].2[m].2.1 = bv) = true) := hide (by simpa using e4)
                      cases e3 : decide (ts[k].2[m].2.2 = xs[i])
                      · have e3h := hide e3
                        simp only [e3] at hq
                        have hnew : Hid (bestStep ((i : Int) + 1) xs[i] (bv, false) ts[k].2[m] = (bv, false)) := hide (by unfold bestStep; rw [if_pos e1h.out, if_neg (of_decide_eq_false e2h.out)]; simp [e4h.out, e3h.out])
                        go_wp2
                        refine wp_region_T (fun _ => True) [] [] [] [0, 1, 2, 3, 4, 5, 6, 7, 8, 9, 10, 11, 12, 13, 14, 15, 16] (by kernel_rfl) (by kernel_rfl) (by kernel_rfl) trivial ?_; simp only [pickL, List.getElem?_cons_succ, List.getElem?_cons_zero]
                        go_wp2_with (first
                          | (with_reducible refine Since.and_ ?_ ?_; (focus (repeat (first | (with_reducible exact Since.refl _) | assumption | (with_reducible refine Since.drewR ?_) | (with_reducible refine Since.alloc ?_ _) | ((with_reducible apply Since.below); rotate_left; (focus assumption))))); intro hS) | ((with_reducible refine wpT_noL ?_ ?_); (focus (first | exact wanted_no _ _ _ rfl rfl rfl | exact wanted_un _ _ _ rfl rfl rfl)); simp only [setO, List.set_cons_succ, List.set_cons_zero]) | ((with_reducible refine wpT_q0 ?_ ?_ ?_ ?_); (focus rfl); (focus rfl); (focus rfl); intro K hK) | ((with_reducible apply wpT_l); (focus rfl); (focus rfl); (focus rfl); (focus rfl); (focus (first | exact Since.drew _ | assumption)); (focus (simp <;> omega)); (focus go_simp); intro K hK) | ((with_reducible apply wpT_lw); (focus exact wanted_yes _ _ _ rfl rfl rfl); (focus rfl); (focus rfl); (focus rfl); (focus (first | exact Since.drew _ | assumption)); (focus (simp <;> omega)); (focus go_simp); intro K hK) | ((with_reducible refine wpT_xs0 ?_ ?_ ?_); (focus rfl); (focus rfl); intro K hK) | ((with_reducible refine wpT_q1 ?_ ?_ ?_ ?_); (focus exact wanted_yes _ _ _ rfl rfl rfl); (focus rfl); (focus rfl); intro K hK) | ((with_reducible refine wpT_xs1 ?_ ?_ ?_); (focus exact wanted_yes _ _ _ rfl rfl rfl); (focus rfl); intro K hK) | ((with_reducible refine wpT_nil ?_); try dsimp only)
                          | fail)
                        go_roundw
                        case rel => exact ⟨m + 1, by omega, by go_num, by rw [hst.out, hnew.out], by rw [hst.out, hnew.out], hbA.drew⟩
                        case measure => simp [intOf]; omega
                      · have e3h := hide e3
                        simp only [e3] at hq
                        have hnew : Hid (bestStep ((i : Int) + 1) xs[i] (bv, false) ts[k].2[m] = (bv, true)) := hide (by unfold bestStep; rw [if_pos e1h.out, if_neg (of_decide_eq_false e2h.out)]; simp [e4h.out, e3h.out])
                        go_wp2
                        refine wp_region_T (fun _ => True) [] [] [] [0, 1, 2, 3, 4, 5, 6, 7, 8, 9, 10, 11, 12, 13, 14, 15, 16] (by kernel_rfl) (by kernel_rfl) (by kernel_rfl) trivial ?_; simp only [pickL, List.getElem?_cons_succ, List.getElem?_cons_zero]
                        go_wp2_with (first
                          | (with_reducible refine Since.and_ ?_ ?_; (focus (repeat (first | (with_reducible exact Since.refl _) | assumption | (with_reducible refine Since.drewR ?_) | (with_reducible refine Since.alloc ?_ _) | ((with_reducible apply Since.below); rotate_left; (focus assumption))))); intro hS) | ((with_reducible refine wpT_noL ?_ ?_); (focus (first | exact wanted_no _ _ _ rfl rfl rfl | exact wanted_un _ _ _ rfl rfl rfl)); simp only [setO, List.set_cons_succ, List.set_cons_zero]) | ((with_reducible refine wpT_q0 ?_ ?_ ?_ ?_); (focus rfl); (focus rfl); (focus rfl); intro K hK) | ((with_reducible apply wpT_l); (focus rfl); (focus rfl); (focus rfl); (focus rfl); (focus (first | exact Since.drew _ | assumption)); (focus (simp <;> omega)); (focus go_simp); intro K hK) | ((with_reducible apply wpT_lw); (focus exact wanted_yes _ _ _ rfl rfl rfl); (focus rfl); (focus rfl); (focus rfl); (focus (first | exact Since.drew _ | assumption)); (focus (simp <;> omega)); (focus go_simp); intro K hK) | ((with_reducible refine wpT_xs0 ?_ ?_ ?_); (focus rfl); (focus rfl); intro K hK) | ((with_reducible refine wpT_q1 ?_ ?_ ?_ ?_); (focus exact wanted_yes _ _ _ rfl rfl rfl); (focus rfl); (focus rfl); intro K hK) | ((with_reducible refine wpT_xs1 ?_ ?_ ?_); (focus exact wanted_yes _ _ _ rfl rfl rfl); (focus rfl); intro K hK) | ((with_reducible refine wpT_nil ?_); try dsimp only)
                          | fail)
                        go_roundw
                        case rel => exact ⟨m + 1, by omega, by go_num, by rw [hst.out, hnew.out], by rw [hst.out, hnew.out], hbA.drew⟩
                        case measure => simp [intOf]; omega
                  · have hnew : Hid (bestStep ((i : Int) + 1) xs[i] (bv, true) ts[k].2[m] = (bv, true)) := hide (by unfold bestStep; rw [if_pos e1h.out, if_neg (of_decide_eq_false e2h.out)]; simp [])
                    go_wp2
                    refine wp_region_T (fun _ => True) [] [] [] [0, 1, 2, 3, 4, 5, 6, 7, 8, 9, 10, 11, 12, 13, 14, 15, 16] (by kernel_rfl) (by kernel_rfl) (by kernel_rfl) trivial ?_; simp only [pickL, List.getElem?_cons_succ, List.getElem?_cons_zero]
                    go_wp2_with (first
                      | (with_reducible refine Since.and_ ?_ ?_; (focus (repeat (first | (with_reducible exact Since.refl _) | assumption | (with_reducible refine Since.drewR ?_) | (with_reducible refine Since.alloc ?_ _) | ((with_reducible apply Since.below); rotate_left; (focus assumption))))); intro hS) | ((with_reducible refine wpT_noL ?_ ?_); (focus (first | exact wanted_no _ _ _ rfl rfl rfl | exact wanted_un _ _ _ rfl rfl rfl)); simp only [setO, List.set_cons_succ, List.set_cons_zero]) | ((with_reducible refine wpT_q0 ?_ ?_ ?_ ?_); (focus rfl); (focus rfl); (focus rfl); intro K hK) | ((with_reducible apply wpT_l); (focus rfl); (focus rfl); (focus rfl); (focus rfl); (focus (first | exact Since.drew _ | assumption)); (focus (simp <;> omega)); (focus go_simp); intro K hK) | ((with_reducible apply wpT_lw); (focus exact wanted_yes _ _ _ rfl rfl rfl); (focus rfl); (focus rfl); (focus rfl); (focus (first | exact Since.drew _ | assumption)); (focus (simp <;> omega)); (focus go_simp); intro K hK) | ((with_reducible refine wpT_xs0 ?_ ?_ ?_); (focus rfl); (focus rfl); intro K hK) | ((with_reducible refine wpT_q1 ?_ ?_ ?_ ?_); (focus exact wanted_yes _ _ _ rfl rfl rfl); (focus rfl); (focus rfl); intro K hK) | ((with_reducible refine wpT_xs1 ?_ ?_ ?_); (focus exact wanted_yes _ _ _ rfl rfl rfl); (focus rfl); intro K hK) | ((with_reducible refine wpT_nil ?_); try dsimp only)
                      | fail)
                    go_roundw
                    case rel => exact ⟨m + 1, by omega, by go_num, by rw [hst.out, hnew.out], by rw [hst.out, hnew.out], hbA.drew⟩
                    case measure => simp [intOf]; omega
                · have e2h := hide e2
                  cases e3 : decide (ts[k].2[m].2.2 = xs[i])
                  · have e3h := hide e3
                    have hnew : Hid (bestStep ((i : Int) + 1) xs[i] (bv, bb) ts[k].2[m] = (ts[k].2[m].2.1, false)) := hide (by unfold bestStep; rw [if_pos e1h.out, if_pos (of_decide_eq_true e2h.out), e3h.out])
                    simp only [e3] at hq
                    go_wp2
                    refine wp_region_T (fun _ => True) [] [] [] [0, 1, 2, 3, 4, 5, 6, 7, 8, 9, 10, 11, 12, 13, 14, 15, 16] (by kernel_rfl) (by kernel_rfl) (by kernel_rfl) trivial ?_; simp only [pickL, List.getElem?_cons_succ, List.getElem?_cons_zero]
                    go_wp2_with (first
                      | (with_reducible refine Since.and_ ?_ ?_; (focus (repeat (first | (with_reducible exact Since.refl _) | assumption | (with_reducible refine Since.drewR ?_) | (with_reducible refine Since.alloc ?_ _) | ((with_reducible apply Since.below); rotate_left; (focus assumption))))); intro hS) | ((with_reducible refine wpT_noL ?_ ?_); (focus (first | exact wanted_no _ _ _ rfl rfl rfl | exact wanted_un _ _ _ rfl rfl rfl)); simp only [setO, List.set_cons_succ, List.set_cons_zero]) | ((with_reducible refine wpT_q0 ?_ ?_ ?_ ?_); (focus rfl); (focus rfl); (focus rfl); intro K hK) | ((with_reducible apply wpT_l); (focus rfl); (focus rfl); (focus rfl); (focus rfl); (focus (first | exact Since.drew _ | assumption)); (focus (simp <;> omega)); (focus go_simp); intro K hK) | ((with_reducible apply wpT_lw); (focus exact wanted_yes _ _ _ rfl rfl rfl); (focus rfl); (focus rfl); (focus rfl); (focus (first | exact Since.drew _ | assumption)); (focus (simp <;> omega)); (focus go_simp); intro K hK) | ((with_reducible refine wpT_xs0 ?_ ?_ ?_); (focus rfl); (focus rfl); intro K hK) | ((with_reducible refine wpT_q1 ?_ ?_ ?_ ?_); (focus exact wanted_yes _ _ _ rfl rfl rfl); (focus rfl); (focus rfl); intro K hK) | ((with_reducible refine wpT_xs1 ?_ ?_ ?_); (focus exact wanted_yes _ _ _ rfl rfl rfl); (focus rfl); intro K hK) | ((with_reducible refine wpT_nil ?_); try dsimp only)
                      | fail)
                    go_roundw
                    case rel => exact ⟨m + 1, by omega, by go_num, by rw [hst.out, hnew.out], by rw [hst.out, hnew.out], hbA.drew⟩
                    case measure => simp [intOf]; omega
                  · have e3h := hide e3
                    have hnew : Hid (bestStep ((i : Int) + 1) xs[i] (bv, bb) ts[k].2[m] = (ts[k].2[m].2.1, true)) := hide (by unfold bestStep; rw [if_pos e1h.out, if_pos (of_decide_eq_true e2h.out), e3h.out])
                    simp only [e3] at hq
                    go_wp2
                    refine wp_region_T (fun _ => True) [] [] [] [0, 1, 2, 3, 4, 5, 6, 7, 8, 9, 10, 11, 12, 13, 14, 15, 16] (by kernel_rfl) (by kernel_rfl) (by kernel_rfl) trivial ?_; simp only [pickL, List.getElem?_cons_succ, List.getElem?_cons_zero]
                    go_wp2_with (first
                      | (with_reducible refine Since.and_ ?_ ?_; (focus (repeat (first | (with_reducible exact Since.refl _) | assumption | (with_reducible refine Since.drewR ?_) | (with_reducible refine Since.alloc ?_ _) | ((with_reducible apply Since.below); rotate_left; (focus assumption))))); intro hS) | ((with_reducible refine wpT_noL ?_ ?_); (focus (first | exact wanted_no _ _ _ rfl rfl rfl | exact wanted_un _ _ _ rfl rfl rfl)); simp only [setO, List.set_cons_succ, List.set_cons_zero]) | ((with_reducible refine wpT_q0 ?_ ?_ ?_ ?_); (focus rfl); (focus rfl); (focus rfl); intro K hK) | ((with_reducible apply wpT_l); (focus rfl); (focus rfl); (focus rfl); (focus rfl); (focus (first | exact Since.drew _ | assumption)); (focus (simp <;> omega)); (focus go_simp); intro K hK) | ((with_reducible apply wpT_lw); (focus exact wanted_yes _ _ _ rfl rfl rfl); (focus rfl); (focus rfl); (focus rfl); (focus (first | exact Since.drew _ | assumption)); (focus (simp <;> omega)); (focus go_simp); intro K hK) | ((with_reducible refine wpT_xs0 ?_ ?_ ?_); (focus rfl); (focus rfl); intro K hK) | ((with_reducible refine wpT_q1 ?_ ?_ ?_ ?_); (focus exact wanted_yes _ _ _ rfl rfl rfl); (focus rfl); (focus rfl); intro K hK) | ((with_reducible refine wpT_xs1 ?_ ?_ ?_); (focus exact wanted_yes _ _ _ rfl rfl rfl); (focus rfl); intro K hK) | ((with_reducible refine wpT_nil ?_); try dsimp only)
                      | fail)
                    go_roundw
                    case rel => exact ⟨m + 1, by omega, by go_num, by rw [hst.out, hnew.out], by rw [hst.out, hnew.out], hbA.drew⟩
                    case measure => simp [intOf]; omega
              · have hnew : Hid (bestStep ((i : Int) + 1) xs[i] (bv, bb) ts[k].2[m] = (bv, bb)) := hide (by unfold bestStep; rw [if_neg (by simpa using e1)])
                go_wp2
                go_roundw
                case rel => exact ⟨m + 1, by omega, by go_num, by rw [hst.out, hnew.out], by rw [hst.out, hnew.out], hbA⟩
                case measure => simp [intOf]; omega
            · obtain rfl : m = n5 := by omega
              go_wp2
              go_roundw
              case rel => exact ⟨k + 1, by omega, by go_num, by rw [hseen.out], by rw [hseen.out], hbt⟩
              case measure => simp [intOf]; omega
        · obtain rfl : k = n1 := by omega
          have hall := hide (clsOf_all hl'.out)
          rw [hall.out]
          subst hgb
          obtain ⟨q0, q1, q2, q3, q4⟩ := ((ho4.slAt encReq_len).2.2.below hbs (Nat.le_refl _)).getReq hlt
          simp only [Nat.zero_add] at q0 q1 q2 q3 q4
          by_cases hpos : 0 ≤ (bestS ((i : Int) + 1) xs[i] (clsOf ts)).1
          · have hyes : (bestS ((i : Int) + 1) xs[i] (clsOf ts)).2 = true := by
              have h := best_yes hok.out ((i : Int) + 1)
              rw [← hget.out] at h
              exact h hpos
            rw [hyes]
            generalize (bestS ((i : Int) + 1) xs[i] (clsOf ts)).1 = bv at *
            have d2 : decide (0 ≤ bv) = true := by simpa using hpos
            have d3 : decide (bv < 0) = false := by simpa using hpos
            clear hyes
            go_wp2
            go_roundw
            case rel => exact ⟨i + 1, by omega, by go_num, hbs⟩
            case measure => simp [intOf]; omega
          · have hno := best_no hok.out (seq := (i : Int) + 1) xs[i] (by omega) (by omega)
            rw [← hget.out] at hno
            have hlt2 : ((i : Int) == (xs.length : Int) - 1) = false := by
              have h1 := hlast.out
              have h2 := topOf_nonneg (clsOf ts)
              have h3 := hno.2
              simp only [beq_eq_false_iff_ne, ne_eq]
              omega
            have hq := fun W => run_neq_req xs[i] (0, 0, 0, 0, 0) W
            have e3 : decide (xs[i] = (0, 0, 0, 0, 0)) = true := decide_eq_true hno.1
            simp only [e3] at hq
            try dsimp only at hq
            generalize (bestS ((i : Int) + 1) xs[i] (clsOf ts)).2 = bb at *
            generalize (bestS ((i : Int) + 1) xs[i] (clsOf ts)).1 = bv at *
            have d2 : decide (0 ≤ bv) = false := by simpa using hpos
            have d3 : decide (bv < 0) = true := by simpa using hpos
            clear hno e3
            go_wp2
            go_roundw
            case rel => exact ⟨i + 1, by omega, by go_num, hbs⟩
            case measure => simp [intOf]; omega
    · obtain rfl : i = xs.length := by omega
      go_wp2
      go_ret
      exact ⟨rfl, hB4.trans (hbr.mono hB4.size)⟩
end Go.Proofs.Ytphlnihmfgmecaa
