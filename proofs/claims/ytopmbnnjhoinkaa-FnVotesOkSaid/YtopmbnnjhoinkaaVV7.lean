/-
  What 'FVd' rests on (texts of this seat put together: NG).
  Conditions: none.
-/
import Derived.Test.YtopmbnnjhoinkaaVV6
namespace Go.Proofs.Ytopmbnnjhoinkaa
open Go.RowKit Rg
set_option linter.unusedVariables false
set_option linter.unusedSimpArgs false
set_option maxHeartbeats 1000000
theorem not_okCls {ts : List ClaimT} {i : Nat} (hi : i < ts.length) (h : ¬ goodC ts i) : decide (okCls ts) = false := by
  simp only [decide_eq_false_iff_not]; exact fun hq => h (hq i hi)
theorem not_okVs {ts : List VoteT} {i : Nat} (hi : i < ts.length) (h : ¬ goodV ts i) : decide (okVs ts) = false := by
  simp only [decide_eq_false_iff_not]; exact fun hq => h (hq i hi)
theorem is_okCls {ts : List ClaimT} {n : Nat} (hn : n = ts.length) (h : ∀ i, i < n → goodC ts i) : decide (okCls ts) = true := by
  subst hn; simp only [decide_eq_true_eq]; exact h
theorem is_okVs {ts : List VoteT} {n : Nat} (hn : n = ts.length) (h : ∀ i, i < n → goodV ts i) : decide (okVs ts) = true := by
  subst hn; simp only [decide_eq_true_eq]; exact h
set_option maxHeartbeats 1000000 in
theorem claimsOk_c (A : Option Addr) (n c lo hi : Nat) (ts : List ClaimT) (w : World) (hs : RdN 7 clR w lo hi A n c ts) (hhi : hi ≤ w.heap.size) :
    Calls Try.prog 56 #[.slice A n c] w fun e w' => e = .returned (.bool (decide (okCls ts))) ∧ Below w.heap.size w w' := by
  have hn' := hide hs.len
  have hc1 := hs.cap
  have hc2 := hs.max
  unfold maxLen at hc2
  go_enter Try.func56, Try.ntmps56
  go_wp2
  go_loopw [7, 3, 4] (fun i _ _ wr => ∃ k : Nat, k ≤ n ∧ i = .int .i64 k ∧ Hid (∀ i, i < k → goodC ts i) ∧ Below w.heap.size w wr) (fun i _ _ _ => n - (intOf i).toNat)
  case atStart => exact ⟨0, Nat.zero_le _, rfl, fun i h => absurd h (by omega), Below.refl _ _⟩
  case round =>
    obtain ⟨k, hk, rfl, hgo, hbr⟩ := hrel
    have hzr := hbr.size
    by_cases hlt : k < n
    · have hlx : k < ts.length := by have := hn'.out; omega
      obtain ⟨b, off, rfl, hlo, hbh⟩ := hs.addr hlx
      obtain ⟨a0, a1, a2, a3, a4, a5, a6⟩ := (hs.below (flat_kept _) hbr hhi).claim hlx
      cases e1 : okCl ts[k]
      · have hno := hide (not_okCls hlx (fun ⟨_, h, _⟩ => by rw [e1] at h; cases h))
        have hA := (Below.refl wr.heap.size wr).alloc (Nat.le_refl _) (.cells #[.int .i64 ts[k].1, .int .i64 ts[k].2.1, .int .i64 ts[k].2.2.1, .int .i64 ts[k].2.2.2.1, .int .i64 ts[k].2.2.2.2.1, .int .i64 ts[k].2.2.2.2.2.1, .int .i64 ts[k].2.2.2.2.2.2] 27)
        have hb1 := hbr.trans (hA.mono hzr)
        have hz1 := hA.size
        have y0 : (wr.alloc (.cells #[.int .i64 ts[k].1, .int .i64 ts[k].2.1, .int .i64 ts[k].2.2.1, .int .i64 ts[k].2.2.2.1, .int .i64 ts[k].2.2.2.2.1, .int .i64 ts[k].2.2.2.2.2.1, .int .i64 ts[k].2.2.2.2.2.2] 27)).cell? ⟨wr.heap.size, 0, none⟩ = some (.int .i64 ts[k].1) := by simp
        have y1 : (wr.alloc (.cells #[.int .i64 ts[k].1, .int .i64 ts[k].2.1, .int .i64 ts[k].2.2.1, .int .i64 ts[k].2.2.2.1, .int .i64 ts[k].2.2.2.2.1, .int .i64 ts[k].2.2.2.2.2.1, .int .i64 ts[k].2.2.2.2.2.2] 27)).cell? ⟨wr.heap.size, 1, none⟩ = some (.int .i64 ts[k].2.1) := by simp
        have y2 : (wr.alloc (.cells #[.int .i64 ts[k].1, .int .i64 ts[k].2.1, .int .i64 ts[k].2.2.1, .int .i64 ts[k].2.2.2.1, .int .i64 ts[k].2.2.2.2.1, .int .i64 ts[k].2.2.2.2.2.1, .int .i64 ts[k].2.2.2.2.2.2] 27)).cell? ⟨wr.heap.size, 2, none⟩ = some (.int .i64 ts[k].2.2.1) := by simp
        have y3 : (wr.alloc (.cells #[.int .i64 ts[k].1, .int .i64 ts[k].2.1, .int .i64 ts[k].2.2.1, .int .i64 ts[k].2.2.2.1, .int .i64 ts[k].2.2.2.2.1, .int .i64 ts[k].2.2.2.2.2.1, .int .i64 ts[k].2.2.2.2.2.2] 27)).cell? ⟨wr.heap.size, 3, none⟩ = some (.int .i64 ts[k].2.2.2.1) := by simp
        have y4 : (wr.alloc (.cells #[.int .i64 ts[k].1, .int .i64 ts[k].2.1, .int .i64 ts[k].2.2.1, .int .i64 ts[k].2.2.2.1, .int .i64 ts[k].2.2.2.2.1, .int .i64 ts[k].2.2.2.2.2.1, .int .i64 ts[k].2.2.2.2.2.2] 27)).cell? ⟨wr.heap.size, 4, none⟩ = some (.int .i64 ts[k].2.2.2.2.1) := by simp
        have y5 : (wr.alloc (.cells #[.int .i64 ts[k].1, .int .i64 ts[k].2.1, .int .i64 ts[k].2.2.1, .int .i64 ts[k].2.2.2.1, .int .i64 ts[k].2.2.2.2.1, .int .i64 ts[k].2.2.2.2.2.1, .int .i64 ts[k].2.2.2.2.2.2] 27)).cell? ⟨wr.heap.size, 5, none⟩ = some (.int .i64 ts[k].2.2.2.2.2.1) := by simp
        have y6 : (wr.alloc (.cells #[.int .i64 ts[k].1, .int .i64 ts[k].2.1, .int .i64 ts[k].2.2.1, .int .i64 ts[k].2.2.2.1, .int .i64 ts[k].2.2.2.2.1, .int .i64 ts[k].2.2.2.2.2.1, .int .i64 ts[k].2.2.2.2.2.2] 27)).cell? ⟨wr.heap.size, 6, none⟩ = some (.int .i64 ts[k].2.2.2.2.2.2) := by simp
        go_wp2
        generalize wr.alloc (.cells #[.int .i64 ts[k].1, .int .i64 ts[k].2.1, .int .i64 ts[k].2.2.1, .int .i64 ts[k].2.2.2.1, .int .i64 ts[k].2.2.2.2.1, .int .i64 ts[k].2.2.2.2.2.1, .int .i64 ts[k].2.2.2.2.2.2] 27) = wq at *
        refine wp_region_T (fun _ => True) [] [] [] [0, 1, 2, 3, 4, 5, 6, 7, 8, 9, 10, 11, 12, 13, 14, 15, 16, 17] (by kernel_rfl) (by kernel_rfl) (by kernel_rfl) trivial ?_; simp only [pickL, List.getElem?_cons_succ, List.getElem?_cons_zero]
        go_wp2_with (first
          | ((refine no_implicit_lambda% (g24_ ?_)); intro K hK) | (refine no_implicit_lambda% (g1_ ?_)) | ((refine no_implicit_lambda% (g2_ ?_)); intro K hK) | (refine no_implicit_lambda% (g3_ ?_))
          | (go_at_call 18; refine (claimOk_c ts[k] _).mono ?_; rintro e w2 ⟨rfl, hb2⟩; rw [e1])
          | fail)
        have hb3 := hb1.drew.trans (hb2.mono hb1.size)
        go_ret
        exact ⟨by rw [hno.out]; rfl, hb3⟩
      · rcases Nat.eq_zero_or_pos k with rfl | hpos
        · have hyes : Hid (goodC ts 0) := hide ⟨hlx, e1, fun h => absurd h (by omega)⟩
          simp only [Nat.zero_mul, Nat.add_zero] at a0 a1 a2 a3 a4 a5 a6
          have hA := (Below.refl wr.heap.size wr).alloc (Nat.le_refl _) (.cells #[.int .i64 ts[0].1, .int .i64 ts[0].2.1, .int .i64 ts[0].2.2.1, .int .i64 ts[0].2.2.2.1, .int .i64 ts[0].2.2.2.2.1, .int .i64 ts[0].2.2.2.2.2.1, .int .i64 ts[0].2.2.2.2.2.2] 27)
          have hb1 := hbr.trans (hA.mono hzr)
          have hz1 := hA.size
          have y0 : (wr.alloc (.cells #[.int .i64 ts[0].1, .int .i64 ts[0].2.1, .int .i64 ts[0].2.2.1, .int .i64 ts[0].2.2.2.1, .int .i64 ts[0].2.2.2.2.1, .int .i64 ts[0].2.2.2.2.2.1, .int .i64 ts[0].2.2.2.2.2.2] 27)).cell? ⟨wr.heap.size, 0, none⟩ = some (.int .i64 ts[0].1) := by simp
          have y1 : (wr.alloc (.cells #[.int .i64 ts[0].1, .int .i64 ts[0].2.1, .int .i64 ts[0].2.2.1, .int .i64 ts[0].2.2.2.1, .int .i64 ts[0].2.2.2.2.1, .int .i64 ts[0].2.2.2.2.2.1, .int .i64 ts[0].2.2.2.2.2.2] 27)).cell? ⟨wr.heap.size, 1, none⟩ = some (.int .i64 ts[0].2.1) := by simp
          have y2 : (wr.alloc (.cells #[.int .i64 ts[0].1, .int .i64 ts[0].2.1, .int .i64 ts[0].2.2.1, .int .i64 ts[0].2.2.2.1, .int .i64 ts[0].2.2.2.2.1, .int .i64 ts[0].2.2.2.2.2.1, .int .i64 ts[0].2.2.2.2.2.2] 27)).cell? ⟨wr.heap.size, 2, none⟩ = some (.int .i64 ts[0].2.2.1) := by simp
          have y3 : (wr.alloc (.cells #[.int .i64 ts[0].1, .int .i64 ts[0].2.1, .int .i64 ts[0].2.2.1, .int .i64 ts[0].2.2.2.1, .int .i64 ts[0].2.2.2.2.1, .int .i64 ts[0].2.2.2.2.2.1, .int .i64 ts[0].2.2.2.2.2.2] 27)).cell? ⟨wr.heap.size, 3, none⟩ = some (.int .i64 ts[0].2.2.2.1) := by simp
          have y4 : (wr.alloc (.cells #[.int .i64 ts[0].1, .int .i64 ts[0].2.1, .int .i64 ts[0].2.2.1, .int .i64 ts[0].2.2.2.1, .int .i64 ts[0].2.2.2.2.1, .int .i64 ts[0].2.2.2.2.2.1, .int .i64 ts[0].2.2.2.2.2.2] 27)).cell? ⟨wr.heap.size, 4, none⟩ = some (.int .i64 ts[0].2.2.2.2.1) := by simp
          have y5 : (wr.alloc (.cells #[.int .i64 ts[0].1, .int .i64 ts[0].2.1, .int .i64 ts[0].2.2.1, .int .i64 ts[0].2.2.2.1, .int .i64 ts[0].2.2.2.2.1, .int .i64 ts[0].2.2.2.2.2.1, .int .i64 ts[0].2.2.2.2.2.2] 27)).cell? ⟨wr.heap.size, 5, none⟩ = some (.int .i64 ts[0].2.2.2.2.2.1) := by simp
          have y6 : (wr.alloc (.cells #[.int .i64 ts[0].1, .int .i64 ts[0].2.1, .int .i64 ts[0].2.2.1, .int .i64 ts[0].2.2.2.1, .int .i64 ts[0].2.2.2.2.1, .int .i64 ts[0].2.2.2.2.2.1, .int .i64 ts[0].2.2.2.2.2.2] 27)).cell? ⟨wr.heap.size, 6, none⟩ = some (.int .i64 ts[0].2.2.2.2.2.2) := by simp
          go_wp2
          generalize wr.alloc (.cells #[.int .i64 ts[0].1, .int .i64 ts[0].2.1, .int .i64 ts[0].2.2.1, .int .i64 ts[0].2.2.2.1, .int .i64 ts[0].2.2.2.2.1, .int .i64 ts[0].2.2.2.2.2.1, .int .i64 ts[0].2.2.2.2.2.2] 27) = wq at *
          refine wp_region_T (fun _ => True) [] [] [] [0, 1, 2, 3, 4, 5, 6, 7, 8, 9, 10, 11, 12, 13, 14, 15, 16, 17] (by kernel_rfl) (by kernel_rfl) (by kernel_rfl) trivial ?_; simp only [pickL, List.getElem?_cons_succ, List.getElem?_cons_zero]
          go_wp2_with (first
            | ((refine no_implicit_lambda% (g24_ ?_)); intro K hK) | (refine no_implicit_lambda% (g1_ ?_)) | ((refine no_implicit_lambda% (g2_ ?_)); intro K hK) | (refine no_implicit_lambda% (g3_ ?_))
            | (go_at_call 18; refine (claimOk_c ts[0] _).mono ?_; rintro e w2 ⟨rfl, hb2⟩; rw [e1])
            | fail)
          have hb3 := hb1.drew.trans (hb2.mono hb1.size)
          go_roundw
          case rel => exact ⟨0 + 1, by omega, by go_num, hide (allTo_succ hgo.out hyes.out), hb3⟩
          case measure => simp [intOf]; omega
        · obtain ⟨j, rfl⟩ : ∃ j, k = j + 1 := ⟨k - 1, by omega⟩
          have hlj : j < ts.length := by omega
          obtain ⟨p0, _⟩ := (hs.below (flat_kept _) hbr hhi).claim hlj
          cases e2 : decide (ts[j + 1].1 ≤ ts[j].1)
          · have hyes : Hid (goodC ts (j + 1)) := hide ⟨hlx, e1, fun h => by have := of_decide_eq_false e2; simp only [Nat.add_sub_cancel]; omega⟩
            have hA := (Below.refl wr.heap.size wr).alloc (Nat.le_refl _) (.cells #[.int .i64 ts[j + 1].1, .int .i64 ts[j + 1].2.1, .int .i64 ts[j + 1].2.2.1, .int .i64 ts[j + 1].2.2.2.1, .int .i64 ts[j + 1].2.2.2.2.1, .int .i64 ts[j + 1].2.2.2.2.2.1, .int .i64 ts[j + 1].2.2.2.2.2.2] 27)
            have hb1 := hbr.trans (hA.mono hzr)
            have hz1 := hA.size
            have y0 : (wr.alloc (.cells #[.int .i64 ts[j + 1].1, .int .i64 ts[j + 1].2.1, .int .i64 ts[j + 1].2.2.1, .int .i64 ts[j + 1].2.2.2.1, .int .i64 ts[j + 1].2.2.2.2.1, .int .i64 ts[j + 1].2.2.2.2.2.1, .int .i64 ts[j + 1].2.2.2.2.2.2] 27)).cell? ⟨wr.heap.size, 0, none⟩ = some (.int .i64 ts[j + 1].1) := by simp
            have y1 : (wr.alloc (.cells #[.int .i64 ts[j + 1].1, .int .i64 ts[j + 1].2.1, .int .i64 ts[j + 1].2.2.1, .int .i64 ts[j + 1].2.2.2.1, .int .i64 ts[j + 1].2.2.2.2.1, .int .i64 ts[j + 1].2.2.2.2.2.1, .int .i64 ts[j + 1].2.2.2.2.2.2] 27)).cell? ⟨wr.heap.size, 1, none⟩ = some (.int .i64 ts[j + 1].2.1) := by simp
            have y2 : (wr.alloc (.cells #[.int .i64 ts[j + 1].1, .int .i64 ts[j + 1].2.1, .int .i64 ts[j + 1].2.2.1, .int .i64 ts[j + 1].2.2.2.1, .int .i64 ts[j + 1].2.2.2.2.1, .int .i64 ts[j + 1].2.2.2.2.2.1, .int .i64 ts[j + 1].2.2.2.2.2.2] 27)).cell? ⟨wr.heap.size, 2, none⟩ = some (.int .i64 ts[j + 1].2.2.1) := by simp
            have y3 : (wr.alloc (.cells #[.int .i64 ts[j + 1].1, .int .i64 ts[j + 1].2.1, .int .i64 ts[j + 1].2.2.1, .int .i64 ts[j + 1].2.2.2.1, .int .i64 ts[j + 1].2.2.2.2.1, .int .i64 ts[j + 1].2.2.2.2.2.1, .int .i64 ts[j + 1].2.2.2.2.2.2] 27)).cell? ⟨wr.heap.size, 3, none⟩ = some (.int .i64 ts[j + 1].2.2.2.1) := by simp
            have y4 : (wr.alloc (.cells #[.int .i64 ts[j + 1].1, .int .i64 ts[j + 1].2.1, .int .i64 ts[j + 1].2.2.1, .int .i64 ts[j + 1].2.2.2.1, .int .i64 ts[j + 1].2.2.2.2.1, .int .i64 ts[j + 1].2.2.2.2.2.1, .int .i64 ts[j + 1].2.2.2.2.2.2] 27)).cell? ⟨wr.heap.size, 4, none⟩ = some (.int .i64 ts[j + 1].2.2.2.2.1) := by simp
            have y5 : (wr.alloc (.cells #[.int .i64 ts[j + 1].1, .int .i64 ts[j + 1].2.1, .int .i64 ts[j + 1].2.2.1, .int .i64 ts[j + 1].2.2.2.1, .int .i64 ts[j + 1].2.2.2.2.1, .int .i64 ts[j + 1].2.2.2.2.2.1, .int .i64 ts[j + 1].2.2.2.2.2.2] 27)).cell? ⟨wr.heap.size, 5, none⟩ = some (.int .i64 ts[j + 1].2.2.2.2.2.1) := by simp
            have y6 : (wr.alloc (.cells #[.int .i64 ts[j + 1].1, .int .i64 ts[j + 1].2.1, .int .i64 ts[j + 1].2.2.1, .int .i64 ts[j + 1].2.2.2.1, .int .i64 ts[j + 1].2.2.2.2.1, .int .i64 ts[j + 1].2.2.2.2.2.1, .int .i64 ts[j + 1].2.2.2.2.2.2] 27)).cell? ⟨wr.heap.size, 6, none⟩ = some (.int .i64 ts[j + 1].2.2.2.2.2.2) := by simp
            have p0 := keepc hA p0
            go_wp2
            generalize wr.alloc (.cells #[.int .i64 ts[j + 1].1, .int .i64 ts[j + 1].2.1, .int .i64 ts[j + 1].2.2.1, .int .i64 ts[j + 1].2.2.2.1, .int .i64 ts[j + 1].2.2.2.2.1, .int .i64 ts[j + 1].2.2.2.2.2.1, .int .i64 ts[j + 1].2.2.2.2.2.2] 27) = wq at *
            refine wp_region_T (fun _ => True) [] [] [] [0, 1, 2, 3, 4, 5, 6, 7, 8, 9, 10, 11, 12, 13, 14, 15, 16, 17] (by kernel_rfl) (by kernel_rfl) (by kernel_rfl) trivial ?_; simp only [pickL, List.getElem?_cons_succ, List.getElem?_cons_zero]
            go_wp2_with (first
              | ((refine no_implicit_lambda% (g24_ ?_)); intro K hK) | (refine no_implicit_lambda% (g1_ ?_)) | ((refine no_implicit_lambda% (g2_ ?_)); intro K hK) | (refine no_implicit_lambda% (g3_ ?_))
              | (go_at_call 18; refine (claimOk_c ts[j + 1] _).mono ?_; rintro e w2 ⟨rfl, hb2⟩; rw [e1]; have y0 := keepc hb2 y0; have p0 := keepc hb2 p0)
              | fail)
            have hb3 := hb1.drew.trans (hb2.mono hb1.size)
            go_roundw
            case rel => exact ⟨j + 1 + 1, by omega, by go_num, hide (allTo_succ hgo.out hyes.out), hb3⟩
            case measure => simp [intOf]; omega
          · have hno := hide (not_okCls hlx (fun ⟨_, _, h⟩ => by have h1 := of_decide_eq_true e2; have h2 := h (by omega); simp only [Nat.add_sub_cancel] at h2; omega))
            have hA := (Below.refl wr.heap.size wr).alloc (Nat.le_refl _) (.cells #[.int .i64 ts[j + 1].1, .int .i64 ts[j + 1].2.1, .int .i64 ts[j + 1].2.2.1, .int .i64 ts[j + 1].2.2.2.1, .int .i64 ts[j + 1].2.2.2.2.1, .int .i64 ts[j + 1].2.2.2.2.2.1, .int .i64 ts[j + 1].2.2.2.2.2.2] 27)
            have hb1 := hbr.trans (hA.mono hzr)
            have hz1 := hA.size
            have y0 : (wr.alloc (.cells #[.int .i64 ts[j + 1].1, .int .i64 ts[j + 1].2.1, .int .i64 ts[j + 1].2.2.1, .int .i64 ts[j + 1].2.2.2.1, .int .i64 ts[j + 1].2.2.2.2.1, .int .i64 ts[j + 1].2.2.2.2.2.1, .int .i64 ts[j + 1].2.2.2.2.2.2] 27)).cell? ⟨wr.heap.size, 0, none⟩ = some (.int .i64 ts[j + 1].1) := by simp
            have y1 : (wr.alloc (.cells #[.int .i64 ts[j + 1].1, .int .i64 ts[j + 1].2.1, .int .i64 ts[j + 1].2.2.1, .int .i64 ts[j + 1].2.2.2.1, .int .i64 ts[j + 1].2.2.2.2.1, .int .i64 ts[j + 1].2.2.2.2.2.1, .int .i64 ts[j + 1].2.2.2.2.2.2] 27)).cell? ⟨wr.heap.size, 1, none⟩ = some (.int .i64 ts[j + 1].2.1) := by simp
            have y2 : (wr.alloc (.cells #[.int .i64 ts[j + 1].1, .int .i64 ts[j + 1].2.1, .int .i64 ts[j + 1].2.2.1, .int .i64 ts[j + 1].2.2.2.1, .int .i64 ts[j + 1].2.2.2.2.1, .int .i64 ts[j + 1].2.2.2.2.2.1, .int .i64 ts[j + 1].2.2.2.2.2.2] 27)).cell? ⟨wr.heap.size, 2, none⟩ = some (.int .i64 ts[j + 1].2.2.1) := by simp
            have y3 : (wr.alloc (.cells #[.int .i64 ts[j + 1].1, .int .i64 ts[j + 1].2.1, .int .i64 ts[j + 1].2.2.1, .int .i64 ts[j + 1].2.2.2.1, .int .i64 ts[j + 1].2.2.2.2.1, .int .i64 ts[j + 1].2.2.2.2.2.1, .int .i64 ts[j + 1].2.2.2.2.2.2] 27)).cell? ⟨wr.heap.size, 3, none⟩ = some (.int .i64 ts[j + 1].2.2.2.1) := by simp
            have y4 : (wr.alloc (.cells #[.int .i64 ts[j + 1].1, .int .i64 ts[j + 1].2.1, .int .i64 ts[j + 1].2.2.1, .int .i64 ts[j + 1].2.2.2.1, .int .i64 ts[j + 1].2.2.2.2.1, .int .i64 ts[j + 1].2.2.2.2.2.1, .int .i64 ts[j + 1].2.2.2.2.2.2] 27)).cell? ⟨wr.heap.size, 4, none⟩ = some (.int .i64 ts[j + 1].2.2.2.2.1) := by simp
            have y5 : (wr.alloc (.cells #[.int .i64 ts[j + 1].1, .int .i64 ts[j + 1].2.1, .int .i64 ts[j + 1].2.2.1, .int .i64 ts[j + 1].2.2.2.1, .int .i64 ts[j + 1].2.2.2.2.1, .int .i64 ts[j + 1].2.2.2.2.2.1, .int .i64 ts[j + 1].2.2.2.2.2.2] 27)).cell? ⟨wr.heap.size, 5, none⟩ = some (.int .i64 ts[j + 1].2.2.2.2.2.1) := by simp
            have y6 : (wr.alloc (.cells #[.int .i64 ts[j + 1].1, .int .i64 ts[j + 1].2.1, .int .i64 ts[j + 1].2.2.1, .int .i64 ts[j + 1].2.2.2.1, .int .i64 ts[j + 1].2.2.2.2.1, .int .i64 ts[j + 1].2.2.2.2.2.1, .int .i64 ts[j + 1].2.2.2.2.2.2] 27)).cell? ⟨wr.heap.size, 6, none⟩ = some (.int .i64 ts[j + 1].2.2.2.2.2.2) := by simp
            have p0 := keepc hA p0
            go_wp2
            generalize wr.alloc (.cells #[.int .i64 ts[j + 1].1, .int .i64 ts[j + 1].2.1, .int .i64 ts[j + 1].2.2.1, .int .i64 ts[j + 1].2.2.2.1, .int .i64 ts[j + 1].2.2.2.2.1, .int .i64 ts[j + 1].2.2.2.2.2.1, .int .i64 ts[j + 1].2.2.2.2.2.2] 27) = wq at *
            refine wp_region_T (fun _ => True) [] [] [] [0, 1, 2, 3, 4, 5, 6, 7, 8, 9, 10, 11, 12, 13, 14, 15, 16, 17] (by kernel_rfl) (by kernel_rfl) (by kernel_rfl) trivial ?_; simp only [pickL, List.getElem?_cons_succ, List.getElem?_cons_zero]
            go_wp2_with (first
              | ((refine no_implicit_lambda% (g24_ ?_)); intro K hK) | (refine no_implicit_lambda% (g1_ ?_)) | ((refine no_implicit_lambda% (g2_ ?_)); intro K hK) | (refine no_implicit_lambda% (g3_ ?_))
              | (go_at_call 18; refine (claimOk_c ts[j + 1] _).mono ?_; rintro e w2 ⟨rfl, hb2⟩; rw [e1]; have y0 := keepc hb2 y0; have p0 := keepc hb2 p0)
              | fail)
            have hb3 := hb1.drew.trans (hb2.mono hb1.size)
            go_ret
            exact ⟨by rw [hno.out]; rfl, hb3⟩
    · obtain rfl : k = n := by omega
      go_wp2
      go_ret
      exact ⟨by rw [is_okCls hn'.out hgo.out]; rfl, hbr⟩
set_option maxHeartbeats 1000000 in
theorem l3ClaimsOk_c (A : Option Addr) (n c lo hi : Nat) (ts : List ClaimT) (w : World) (hs : RdN 7 clR w lo hi A n c ts) (hhi : hi ≤ w.heap.size) :
    Calls Try.prog 78 #[.slice A n c] w fun e w' => e = .returned (.bool (decide (okCls ts))) ∧ Below w.heap.size w w' := by
  have hn' := hide hs.len
  have hc1 := hs.cap
  have hc2 := hs.max
  unfold maxLen at hc2
  go_enter Try.func78, Try.ntmps78
  go_wp2
  go_loopw [3] (fun i wr => ∃ k : Nat, k ≤ n ∧ i = .int .i64 k ∧ Hid (∀ i, i < k → goodC ts i) ∧ Below w.heap.size w wr) (fun i _ => n - (intOf i).toNat)
  case atStart => exact ⟨0, Nat.zero_le _, rfl, fun i h => absurd h (by omega), Below.refl _ _⟩
  case round =>
    obtain ⟨k, hk, rfl, hgo, hbr⟩ := hrel
    have hzr := hbr.size
    by_cases hlt : k < n
    · have hlx : k < ts.length := by have := hn'.out; omega
      obtain ⟨b, off, rfl, hlo, hbh⟩ := hs.addr hlx
      obtain ⟨a0, a1, a2, a3, a4, a5, a6⟩ := (hs.below (flat_kept _) hbr hhi).claim hlx
      cases e1 : okCl ts[k]
      · have hno := hide (not_okCls hlx (fun ⟨_, h, _⟩ => by rw [e1] at h; cases h))
        have hb1 := hbr
        have hz1 := Nat.le_refl wr.heap.size
        go_wp2
        refine wp_region_T (fun _ => True) [] [] [] [0, 1, 2, 3, 4, 5, 6, 7, 8, 9, 10, 11, 12, 13, 14, 15, 16, 17, 18, 19, 20, 21, 22, 23] (by kernel_rfl) (by kernel_rfl) (by kernel_rfl) trivial ?_; simp only [pickL, List.getElem?_cons_succ, List.getElem?_cons_zero]
        go_wp2_with (first
          | ((refine no_implicit_lambda% (g24_ ?_)); intro K hK) | (refine no_implicit_lambda% (g1_ ?_)) | ((refine no_implicit_lambda% (g2_ ?_)); intro K hK) | (refine no_implicit_lambda% (g3_ ?_))
          | (go_at_call 22; refine (l3ClaimOk_c ts[k] _).mono ?_; rintro e w2 ⟨rfl, hb2⟩; rw [e1])
          | fail)
        have hb3 := hb1.drew.trans (hb2.mono hb1.size)
        go_ret
        exact ⟨by rw [hno.out]; rfl, hb3⟩
      · rcases Nat.eq_zero_or_pos k with rfl | hpos
        · have hyes : Hid (goodC ts 0) := hide ⟨hlx, e1, fun h => absurd h (by omega)⟩
          simp only [Nat.zero_mul, Nat.add_zero] at a0 a1 a2 a3 a4 a5 a6
          have hb1 := hbr
          have hz1 := Nat.le_refl wr.heap.size
          go_wp2
          refine wp_region_T (fun _ => True) [] [] [] [0, 1, 2, 3, 4, 5, 6, 7, 8, 9, 10, 11, 12, 13, 14, 15, 16, 17, 18, 19, 20, 21, 22, 23] (by kernel_rfl) (by kernel_rfl) (by kernel_rfl) trivial ?_; simp only [pickL, List.getElem?_cons_succ, List.getElem?_cons_zero]
          go_wp2_with (first
            | ((refine no_implicit_lambda% (g24_ ?_)); intro K hK) | (refine no_implicit_lambda% (g1_ ?_)) | ((refine no_implicit_lambda% (g2_ ?_)); intro K hK) | (refine no_implicit_lambda% (g3_ ?_))
            | (go_at_call 22; refine (l3ClaimOk_c ts[0] _).mono ?_; rintro e w2 ⟨rfl, hb2⟩; rw [e1])
            | fail)
          have hb3 := hb1.drew.trans (hb2.mono hb1.size)
          go_roundw
          case rel => exact ⟨0 + 1, by omega, by go_num, hide (allTo_succ hgo.out hyes.out), hb3⟩
          case measure => simp [intOf]; omega
        · obtain ⟨j, rfl⟩ : ∃ j, k = j + 1 := ⟨k - 1, by omega⟩
          have hlj : j < ts.length := by omega
          obtain ⟨p0, _⟩ := (hs.below (flat_kept _) hbr hhi).claim hlj
          cases e2 : decide (ts[j + 1].1 ≤ ts[j].1)
          · have hyes : Hid (goodC ts (j + 1)) := hide ⟨hlx, e1, fun h => by have := of_decide_eq_false e2; simp only [Nat.add_sub_cancel]; omega⟩
            have hb1 := hbr
            have hz1 := Nat.le_refl wr.heap.size
            go_wp2
            refine wp_region_T (fun _ => True) [] [] [] [0, 1, 2, 3, 4, 5, 6, 7, 8, 9, 10, 11, 12, 13, 14, 15, 16, 17, 18, 19, 20, 21, 22, 23] (by kernel_rfl) (by kernel_rfl) (by kernel_rfl) trivial ?_; simp only [pickL, List.getElem?_cons_succ, List.getElem?_cons_zero]
            go_wp2_with (first
              | ((refine no_implicit_lambda% (g24_ ?_)); intro K hK) | (refine no_implicit_lambda% (g1_ ?_)) | ((refine no_implicit_lambda% (g2_ ?_)); intro K hK) | (refine no_implicit_lambda% (g3_ ?_))
              | (go_at_call 22; refine (l3ClaimOk_c ts[j + 1] _).mono ?_; rintro e w2 ⟨rfl, hb2⟩; rw [e1]; have a0 := keepc hb2 a0; have p0 := keepc hb2 p0)
              | fail)
            have hb3 := hb1.drew.trans (hb2.mono hb1.size)
            go_roundw
            case rel => exact ⟨j + 1 + 1, by omega, by go_num, hide (allTo_succ hgo.out hyes.out), hb3⟩
            case measure => simp [intOf]; omega
          · have hno := hide (not_okCls hlx (fun ⟨_, _, h⟩ => by have h1 := of_decide_eq_true e2; have h2 := h (by omega); simp only [Nat.add_sub_cancel] at h2; omega))
            have hb1 := hbr
            have hz1 := Nat.le_refl wr.heap.size
            go_wp2
            refine wp_region_T (fun _ => True) [] [] [] [0, 1, 2, 3, 4, 5, 6, 7, 8, 9, 10, 11, 12, 13, 14, 15, 16, 17, 18, 19, 20, 21, 22, 23] (by kernel_rfl) (by kernel_rfl) (by kernel_rfl) trivial ?_; simp only [pickL, List.getElem?_cons_succ, List.getElem?_cons_zero]
            go_wp2_with (first
              | ((refine no_implicit_lambda% (g24_ ?_)); intro K hK) | (refine no_implicit_lambda% (g1_ ?_)) | ((refine no_implicit_lambda% (g2_ ?_)); intro K hK) | (refine no_implicit_lambda% (g3_ ?_))
              | (go_at_call 22; refine (l3ClaimOk_c ts[j + 1] _).mono ?_; rintro e w2 ⟨rfl, hb2⟩; rw [e1]; have a0 := keepc hb2 a0; have p0 := keepc hb2 p0)
              | fail)
            have hb3 := hb1.drew.trans (hb2.mono hb1.size)
            go_ret
            exact ⟨by rw [hno.out]; rfl, hb3⟩
    · obtain rfl : k = n := by omega
      go_wp2
      go_ret
      exact ⟨by rw [is_okCls hn'.out hgo.out]; rfl, hbr⟩
set_option maxHeartbeats 2000000 in
theorem votesOk_c (A : Option Addr) (n c lo hi : Nat) (ts : List VoteT) (w : World) (hs : RdN 2 voteR w lo hi A n c ts) (hhi : hi ≤ w.heap.size) :
    Calls Try.prog 29 #[.slice A n c] w fun e w' => e = .returned (.bool (decide (okVs ts))) ∧ Below w.heap.size w w' := by
  have hn' := hide hs.len
  have hc1 := hs.cap
  have hc2 := hs.max
  unfold maxLen at hc2
  go_enter Try.func29, Try.ntmps29
  go_wp2
  go_loopw [7, 3, 4] (fun i _ _ wr => ∃ k : Nat, k ≤ n ∧ i = .int .i64 k ∧ Hid (∀ i, i < k → goodV ts i) ∧ Below w.heap.size w wr) (fun i _ _ _ => n - (intOf i).toNat)
  case atStart => exact ⟨0, Nat.zero_le _, rfl, fun i h => absurd h (by omega), Below.refl _ _⟩
  case round =>
    obtain ⟨k, hk, rfl, hgo, hbr⟩ := hrel
    have hzr := hbr.size
    by_cases hlt : k < n
    · have hlx : k < ts.length := by have := hn'.out; omega
      obtain ⟨b, off, rfl, hlo, hbh⟩ := hs.addr hlx
      obtain ⟨A1, n1, c1, a0, a1, r0⟩ := (hs.below vote_kept hbr hhi).vote hlx
      cases e1 : inB ts[k].1 0 3
      · have hno := hide (not_okVs hlx (fun ⟨_, h, _⟩ => by rw [e1] at h; cases h))
        have hA := (Below.refl wr.heap.size wr).alloc (Nat.le_refl _) (.cells #[.int .i64 ts[k].1, .slice A1 n1 c1] 42)
        have hb1 := hbr.trans (hA.mono hzr)
        have hz1 := hA.size
        have y0 : (wr.alloc (.cells #[.int .i64 ts[k].1, .slice A1 n1 c1] 42)).cell? ⟨wr.heap.size, 0, none⟩ = some (.int .i64 ts[k].1) := by simp
        have y1 : (wr.alloc (.cells #[.int .i64 ts[k].1, .slice A1 n1 c1] 42)).cell? ⟨wr.heap.size, 1, none⟩ = some (.slice A1 n1 c1) := by simp
        have r0 := r0.below (flat_kept _) hA (by omega)
        go_wp2
        generalize wr.alloc (.cells #[.int .i64 ts[k].1, .slice A1 n1 c1] 42) = wq at *
        have r0 := r0.below (flat_kept _) ((Below.refl wq.heap.size wq).drew) (by omega)
        refine wp_region_T (fun _ => True) [] [] [] [0, 1, 2, 3, 4, 5, 6, 7, 8, 9, 10, 11, 12, 13, 14, 15, 16, 17, 18, 19, 20, 21, 22, 23, 24] (by kernel_rfl) (by kernel_rfl) (by kernel_rfl) trivial ?_; simp only [pickL, List.getElem?_cons_succ, List.getElem?_cons_zero]
        go_wp2_with (first
          | ((refine no_implicit_lambda% (g24_ ?_)); intro K hK) | (refine no_implicit_lambda% (g1_ ?_)) | ((refine no_implicit_lambda% (g2_ ?_)); intro K hK) | (refine no_implicit_lambda% (g3_ ?_))
          | (go_at_call 55; refine (isKeeper_c _ _).mono ?_; rintro e w2 ⟨rfl, rfl⟩; rw [e1])
          | fail)
        have hb3 := hb1.drew
        go_ret
        exact ⟨by rw [hno.out]; rfl, hb3⟩
      · cases e3 : decide (okCls ts[k].2)
        · have hno := hide (not_okVs hlx (fun ⟨_, _, h, _⟩ => of_decide_eq_false e3 h))
          rcases Nat.eq_zero_or_pos k with rfl | hpos
          · simp only [Nat.zero_mul, Nat.add_zero] at a0 a1
            have hA := (Below.refl wr.heap.size wr).alloc (Nat.le_refl _) (.cells #[.int .i64 ts[0].1, .slice A1 n1 c1] 42)
            have hb1 := hbr.trans (hA.mono hzr)
            have hz1 := hA.size
            have y0 : (wr.alloc (.cells #[.int .i64 ts[0].1, .slice A1 n1 c1] 42)).cell? ⟨wr.heap.size, 0, none⟩ = some (.int .i64 ts[0].1) := by simp
            have y1 : (wr.alloc (.cells #[.int .i64 ts[0].1, .slice A1 n1 c1] 42)).cell? ⟨wr.heap.size, 1, none⟩ = some (.slice A1 n1 c1) := by simp
            have r0 := r0.below (flat_kept _) hA (by omega)
            go_wp2
            generalize wr.alloc (.cells #[.int .i64 ts[0].1, .slice A1 n1 c1] 42) = wq at *
            have r0 := r0.below (flat_kept _) ((Below.refl wq.heap.size wq).drew) (by omega)
            refine wp_region_T (fun _ => True) [] [] [] [0, 1, 2, 3, 4, 5, 6, 7, 8, 9, 10, 11, 12, 13, 14, 15, 16, 17, 18, 19, 20, 21, 22, 23, 24] (by kernel_rfl) (by kernel_rfl) (by kernel_rfl) trivial ?_; simp only [pickL, List.getElem?_cons_succ, List.getElem?_cons_zero]
            go_wp2_with (first
              | ((refine no_implicit_lambda% (g24_ ?_)); intro K hK) | (refine no_implicit_lambda% (g1_ ?_)) | ((refine no_implicit_lambda% (g2_ ?_)); intro K hK) | (refine no_implicit_lambda% (g3_ ?_))
              | (go_at_call 55; refine (isKeeper_c _ _).mono ?_; rintro e w2 ⟨rfl, rfl⟩; rw [e1])
              | (go_at_call 56; refine (claimsOk_c A1 n1 c1 lo hi ts[0].2 _ r0 (by simp; omega)).mono ?_; rintro e w2 ⟨rfl, hb2⟩; rw [e3])
              | fail)
            have hb3 := hb1.drew.trans (hb2.mono hb1.size)
            go_ret
            exact ⟨by rw [hno.out]; rfl, hb3⟩
          · obtain ⟨j, rfl⟩ : ∃ j, k = j + 1 := ⟨k - 1, by omega⟩
            have hlj : j < ts.length := by omega
            obtain ⟨_, _, _, p0, _⟩ := (hs.below vote_kept hbr hhi).vote hlj
            cases e2 : decide (ts[j + 1].1 ≤ ts[j].1)
            · have hA := (Below.refl wr.heap.size wr).alloc (Nat.le_refl _) (.cells #[.int .i64 ts[j + 1].1, .slice A1 n1 c1] 42)
              have hb1 := hbr.trans (hA.mono hzr)
              have hz1 := hA.size
              have y0 : (wr.alloc (.cells #[.int .i64 ts[j + 1].1, .slice A1 n1 c1] 42)).cell? ⟨wr.heap.size, 0, none⟩ = some (.int .i64 ts[j + 1].1) := by simp
              have y1 : (wr.alloc (.cells #[.int .i64 ts[j + 1].1, .slice A1 n1 c1] 42)).cell? ⟨wr.heap.size, 1, none⟩ = some (.slice A1 n1 c1) := by simp
              have p0 := keepc hA p0
              have r0 := r0.below (flat_kept _) hA (by omega)
              go_wp2
              generalize wr.alloc (.cells #[.int .i64 ts[j + 1].1, .slice A1 n1 c1] 42) = wq at *
              have r0 := r0.below (flat_kept _) ((Below.refl wq.heap.size wq).drew) (by omega)
              refine wp_region_T (fun _ => True) [] [] [] [0, 1, 2, 3, 4, 5, 6, 7, 8, 9, 10, 11, 12, 13, 14, 15, 16, 17, 18, 19, 20, 21, 22, 23, 24] (by kernel_rfl) (by kernel_rfl) (by kernel_rfl) trivial ?_; simp only [pickL, List.getElem?_cons_succ, List.getElem?_cons_zero]
              go_wp2_with (first
                | ((refine no_implicit_lambda% (g24_ ?_)); intro K hK) | (refine no_implicit_lambda% (g1_ ?_)) | ((refine no_implicit_lambda% (g2_ ?_)); intro K hK) | (refine no_implicit_lambda% (g3_ ?_))
                | (go_at_call 55; refine (isKeeper_c _ _).mono ?_; rintro e w2 ⟨rfl, rfl⟩; rw [e1])
                | (go_at_call 56; refine (claimsOk_c A1 n1 c1 lo hi ts[j + 1].2 _ r0 (by simp; omega)).mono ?_; rintro e w2 ⟨rfl, hb2⟩; rw [e3])
                | fail)
              have hb3 := hb1.drew.trans (hb2.mono hb1.size)
              go_ret
              exact ⟨by rw [hno.out]; rfl, hb3⟩
            · have hA := (Below.refl wr.heap.size wr).alloc (Nat.le_refl _) (.cells #[.int .i64 ts[j + 1].1, .slice A1 n1 c1] 42)
              have hb1 := hbr.trans (hA.mono hzr)
              have hz1 := hA.size
              have y0 : (wr.alloc (.cells #[.int .i64 ts[j + 1].1, .slice A1 n1 c1] 42)).cell? ⟨wr.heap.size, 0, none⟩ = some (.int .i64 ts[j + 1].1) := by simp
              have y1 : (wr.alloc (.cells #[.int .i64 ts[j + 1].1, .slice A1 n1 c1] 42)).cell? ⟨wr.heap.size, 1, none⟩ = some (.slice A1 n1 c1) := by simp
              have p0 := keepc hA p0
              have r0 := r0.below (flat_kept _) hA (by omega)
              go_wp2
              generalize wr.alloc (.cells #[.int .i64 ts[j + 1].1, .slice A1 n1 c1] 42) = wq at *
              have r0 := r0.below (flat_kept _) ((Below.refl wq.heap.size wq).drew) (by omega)
              refine wp_region_T (fun _ => True) [] [] [] [0, 1, 2, 3, 4, 5, 6, 7, 8, 9, 10, 11, 12, 13, 14, 15, 16, 17, 18, 19, 20, 21, 22, 23, 24] (by kernel_rfl) (by kernel_rfl) (by kernel_rfl) trivial ?_; simp only [pickL, List.getElem?_cons_succ, List.getElem?_cons_zero]
              go_wp2_with (first
                | ((refine no_implicit_lambda% (g24_ ?_)); intro K hK) | (refine no_implicit_lambda% (g1_ ?_)) | ((refine no_implicit_lambda% (g2_ ?_)); intro K hK) | (refine no_implicit_lambda% (g3_ ?_))
                | (go_at_call 55; refine (isKeeper_c _ _).mono ?_; rintro e w2 ⟨rfl, rfl⟩; rw [e1])
                | fail)
              have hb3 := hb1.drew
              go_ret
              exact ⟨by rw [hno.out]; rfl, hb3⟩
        · rcases Nat.eq_zero_or_pos k with rfl | hpos
          · have hyes : Hid (goodV ts 0) := hide ⟨hlx, e1, of_decide_eq_true e3, fun h => absurd h (by omega)⟩
            simp only [Nat.zero_mul, Nat.add_zero] at a0 a1
            have hA := (Below.refl wr.heap.size wr).alloc (Nat.le_refl _) (.cells #[.int .i64 ts[0].1, .slice A1 n1 c1] 42)
            have hb1 := hbr.trans (hA.mono hzr)
            have hz1 := hA.size
            have y0 : (wr.alloc (.cells #[.int .i64 ts[0].1, .slice A1 n1 c1] 42)).cell? ⟨wr.heap.size, 0, none⟩ = some (.int .i64 ts[0].1) := by simp
            have y1 : (wr.alloc (.cells #[.int .i64 ts[0].1, .slice A1 n1 c1] 42)).cell? ⟨wr.heap.size, 1, none⟩ = some (.slice A1 n1 c1) := by simp
            have r0 := r0.below (flat_kept _) hA (by omega)
            go_wp2
            generalize wr.alloc (.cells #[.int .i64 ts[0].1, .slice A1 n1 c1] 42) = wq at *
            have r0 := r0.below (flat_kept _) ((Below.refl wq.heap.size wq).drew) (by omega)
            refine wp_region_T (fun _ => True) [] [] [] [0, 1, 2, 3, 4, 5, 6, 7, 8, 9, 10, 11, 12, 13, 14, 15, 16, 17, 18, 19, 20, 21, 22, 23, 24] (by kernel_rfl) (by kernel_rfl) (by kernel_rfl) trivial ?_; simp only [pickL, List.getElem?_cons_succ, List.getElem?_cons_zero]
            go_wp2_with (first
              | ((refine no_implicit_lambda% (g24_ ?_)); intro K hK) | (refine no_implicit_lambda% (g1_ ?_)) | ((refine no_implicit_lambda% (g2_ ?_)); intro K hK) | (refine no_implicit_lambda% (g3_ ?_))
              | (go_at_call 55; refine (isKeeper_c _ _).mono ?_; rintro e w2 ⟨rfl, rfl⟩; rw [e1])
              | (go_at_call 56; refine (claimsOk_c A1 n1 c1 lo hi ts[0].2 _ r0 (by simp; omega)).mono ?_; rintro e w2 ⟨rfl, hb2⟩; rw [e3])
              | fail)
            have hb3 := hb1.drew.trans (hb2.mono hb1.size)
            go_roundw
            case rel => exact ⟨0 + 1, by omega, by go_num, hide (allTo_succ hgo.out hyes.out), hb3⟩
            case measure => simp [intOf]; omega
          · obtain ⟨j, rfl⟩ : ∃ j, k = j + 1 := ⟨k - 1, by omega⟩
            have hlj : j < ts.length := by omega
            obtain ⟨_, _, _, p0, _⟩ := (hs.below vote_kept hbr hhi).vote hlj
            cases e2 : decide (ts[j + 1].1 ≤ ts[j].1)
            · have hyes : Hid (goodV ts (j + 1)) := hide ⟨hlx, e1, of_decide_eq_true e3, fun h => by have := of_decide_eq_false e2; simp only [Nat.add_sub_cancel]; omega⟩
              have hA := (Below.refl wr.heap.size wr).alloc (Nat.le_refl _) (.cells #[.int .i64 ts[j + 1].1, .slice A1 n1 c1] 42)
              have hb1 := hbr.trans (hA.mono hzr)
              have hz1 := hA.size
              have y0 : (wr.alloc (.cells #[.int .i64 ts[j + 1].1, .slice A1 n1 c1] 42)).cell? ⟨wr.heap.size, 0, none⟩ = some (.int .i64 ts[j + 1].1) := by simp
              have y1 : (wr.alloc (.cells #[.int .i64 ts[j + 1].1, .slice A1 n1 c1] 42)).cell? ⟨wr.heap.size, 1, none⟩ = some (.slice A1 n1 c1) := by simp
              have p0 := keepc hA p0
              have r0 := r0.below (flat_kept _) hA (by omega)
              go_wp2
              generalize wr.alloc (.cells #[.int .i64 ts[j + 1].1, .slice A1 n1 c1] 42) = wq at *
              have r0 := r0.below (flat_kept _) ((Below.refl wq.heap.size wq).drew) (by omega)
              refine wp_region_T (fun _ => True) [] [] [] [0, 1, 2, 3, 4, 5, 6, 7, 8, 9, 10, 11, 12, 13, 14, 15, 16, 17, 18, 19, 20, 21, 22, 23, 24] (by kernel_rfl) (by kernel_rfl) (by kernel_rfl) trivial ?_; simp only [pickL, List.getElem?_cons_succ, List.getElem?_cons_zero]
              go_wp2_with (first
                | ((refine no_implicit_lambda% (g24_ ?_)); intro K hK) | (refine no_implicit_lambda% (g1_ ?_)) | ((refine no_implicit_lambda% (g2_ ?_)); intro K hK) | (refine no_implicit_lambda% (g3_ ?_))
                | (go_at_call 55; refine (isKeeper_c _ _).mono ?_; rintro e w2 ⟨rfl, rfl⟩; rw [e1])
                | (go_at_call 56; refine (claimsOk_c A1 n1 c1 lo hi ts[j + 1].2 _ r0 (by simp; omega)).mono ?_; rintro e w2 ⟨rfl, hb2⟩; rw [e3])
                | fail)
              have hb3 := hb1.drew.trans (hb2.mono hb1.size)
              go_roundw
              case rel => exact ⟨j + 1 + 1, by omega, by go_num, hide (allTo_succ hgo.out hyes.out), hb3⟩
              case measure => simp [intOf]; omega
            · have hno := hide (not_okVs hlx (fun ⟨_, _, _, h⟩ => by have h1 := of_decide_eq_true e2; have h2 := h (by omega); simp only [Nat.add_sub_cancel] at h2; omega))
              have hA := (Below.refl wr.heap.size wr).alloc (Nat.le_refl _) (.cells #[.int .i64 ts[j + 1].1, .slice A1 n1 c1] 42)
              have hb1 := hbr.trans (hA.mono hzr)
              have hz1 := hA.size
              have y0 : (wr.alloc (.cells #[.int .i64 ts[j + 1].1, .slice A1 n1 c1] 42)).cell? ⟨wr.heap.size, 0, none⟩ = some (.int .i64 ts[j + 1].1) := by simp
              have y1 : (wr.alloc (.cells #[.int .i64 ts[j + 1].1, .slice A1 n1 c1] 42)).cell? ⟨wr.heap.size, 1, none⟩ = some (.slice A1 n1 c1) := by simp
              have p0 := keepc hA p0
              have r0 := r0.below (flat_kept _) hA (by omega)
              go_wp2
              generalize wr.alloc (.cells #[.int .i64 ts[j + 1].1, .slice A1 n1 c1] 42) = wq at *
              have r0 := r0.below (flat_kept _) ((Below.refl wq.heap.size wq).drew) (by omega)
              refine wp_region_T (fun _ => True) [] [] [] [0, 1, 2, 3, 4, 5, 6, 7, 8, 9, 10, 11, 12, 13, 14, 15, 16, 17, 18, 19, 20, 21, 22, 23, 24] (by kernel_rfl) (by kernel_rfl) (by kernel_rfl) trivial ?_; simp only [pickL, List.getElem?_cons_succ, List.getElem?_cons_zero]
              go_wp2_with (first
                | ((refine no_implicit_lambda% (g24_ ?_)); intro K hK) | (refine no_implicit_lambda% (g1_ ?_)) | ((refine no_implicit_lambda% (g2_ ?_)); intro K hK) | (refine no_implicit_lambda% (g3_ ?_))
                | (go_at_call 55; refine (isKeeper_c _ _).mono ?_; rintro e w2 ⟨rfl, rfl⟩; rw [e1])
                | fail)
              have hb3 := hb1.drew
              go_ret
              exact ⟨by rw [hno.out]; rfl, hb3⟩
    · obtain rfl : k = n := by omega
      go_wp2
      go_ret
      exact ⟨by rw [is_okVs hn'.out hgo.out]; rfl, hbr⟩
set_option maxHeartbeats 2000000 in
theorem l3VotesOk_c (A : Option Addr) (n c lo hi : Nat) (ts : List VoteT) (w : World) (hs : RdN 2 voteR w lo hi A n c ts) (hhi : hi ≤ w.heap.size) :
    Calls Try.prog 61 #[.slice A n c] w fun e w' => e = .returned (.bool (decide (okVs ts))) ∧ Below w.heap.size w w' := by
  have hn' := hide hs.len
  have hc1 := hs.cap
  have hc2 := hs.max
  unfold maxLen at hc2
  go_enter Try.func61, Try.ntmps61
  go_wp2
  go_loopw [3] (fun i wr => ∃ k : Nat, k ≤ n ∧ i = .int .i64 k ∧ Hid (∀ i, i < k → goodV ts i) ∧ Below w.heap.size w wr) (fun i _ => n - (intOf i).toNat)
  case atStart => exact ⟨0, Nat.zero_le _, rfl, fun i h => absurd h (by omega), Below.refl _ _⟩
  case round =>
    obtain ⟨k, hk, rfl, hgo, hbr⟩ := hrel
    have hzr := hbr.size
    by_cases hlt : k < n
    · have hlx : k < ts.length := by have := hn'.out; omega
      obtain ⟨b, off, rfl, hlo, hbh⟩ := hs.addr hlx
      obtain ⟨A1, n1, c1, a0, a1, r0⟩ := (hs.below vote_kept hbr hhi).vote hlx
      cases e1 : inB ts[k].1 0 3
      · have hno := hide (not_okVs hlx (fun ⟨_, h, _⟩ => by rw [e1] at h; cases h))
        have hb1 := hbr
        have hz1 := Nat.le_refl wr.heap.size
        go_wp2
        have r0 := r0.below (flat_kept _) ((Below.refl wr.heap.size wr).drew) (by omega)
        refine wp_region_T (fun _ => True) [] [] [] [0, 1, 2, 3, 4, 5, 6, 7, 8, 9, 10, 11, 12, 13, 14, 15, 16, 17, 18, 19, 20, 21, 22, 23, 24, 25, 26, 27, 28, 29, 30, 31, 32, 33] (by kernel_rfl) (by kernel_rfl) (by kernel_rfl) trivial ?_; simp only [pickL, List.getElem?_cons_succ, List.getElem?_cons_zero]
        go_wp2_with (first
          | ((refine no_implicit_lambda% (g24_ ?_)); intro K hK) | (refine no_implicit_lambda% (g1_ ?_)) | ((refine no_implicit_lambda% (g2_ ?_)); intro K hK) | (refine no_implicit_lambda% (g3_ ?_))
          | (go_at_call 34; refine (l1In_c _ _ _ _).mono ?_; rintro e w2 ⟨rfl, rfl⟩; rw [e1])
          | fail)
        have hb3 := hb1.drew
        go_ret
        exact ⟨by rw [hno.out]; rfl, hb3⟩
      · cases e3 : decide (okCls ts[k].2)
        · have hno := hide (not_okVs hlx (fun ⟨_, _, h, _⟩ => of_decide_eq_false e3 h))
          rcases Nat.eq_zero_or_pos k with rfl | hpos
          · simp only [Nat.zero_mul, Nat.add_zero] at a0 a1
            have hb1 := hbr
            have hz1 := Nat.le_refl wr.heap.size
            go_wp2
            have r0 := r0.below (flat_kept _) ((Below.refl wr.heap.size wr).drew) (by omega)
            refine wp_region_T (fun _ => True) [] [] [] [0, 1, 2, 3, 4, 5, 6, 7, 8, 9, 10, 11, 12, 13, 14, 15, 16, 17, 18, 19, 20, 21, 22, 23, 24, 25, 26, 27, 28, 29, 30, 31, 32, 33] (by kernel_rfl) (by kernel_rfl) (by kernel_rfl) trivial ?_; simp only [pickL, List.getElem?_cons_succ, List.getElem?_cons_zero]
            go_wp2_with (first
              | ((refine no_implicit_lambda% (g24_ ?_)); intro K hK) | (refine no_implicit_lambda% (g1_ ?_)) | ((refine no_implicit_lambda% (g2_ ?_)); intro K hK) | (refine no_implicit_lambda% (g3_ ?_))
              | (go_at_call 34; refine (l1In_c _ _ _ _).mono ?_; rintro e w2 ⟨rfl, rfl⟩; rw [e1])
              | (go_at_call 78; refine (l3ClaimsOk_c A1 n1 c1 lo hi ts[0].2 _ r0 (by simp; omega)).mono ?_; rintro e w2 ⟨rfl, hb2⟩; rw [e3])
              | fail)
            have hb3 := hb1.drew.trans (hb2.mono hb1.size)
            go_ret
            exact ⟨by rw [hno.out]; rfl, hb3⟩
          · obtain ⟨j, rfl⟩ : ∃ j, k = j + 1 := ⟨k - 1, by omega⟩
            have hlj : j < ts.length := by omega
            obtain ⟨_, _, _, p0, _⟩ := (hs.below vote_kept hbr hhi).vote hlj
            cases e2 : decide (ts[j + 1].1 ≤ ts[j].1)
            · have hb1 := hbr
              have hz1 := Nat.le_refl wr.heap.size
              go_wp2
              have r0 := r0.below (flat_kept _) ((Below.refl wr.heap.size wr).drew) (by omega)
              refine wp_region_T (fun _ => True) [] [] [] [0, 1, 2, 3, 4, 5, 6, 7, 8, 9, 10, 11, 12, 13, 14, 15, 16, 17, 18, 19, 20, 21, 22, 23, 24, 25, 26, 27, 28, 29, 30, 31, 32, 33] (by kernel_rfl) (by kernel_rfl) (by kernel_rfl) trivial ?_; simp only [pickL, List.getElem?_cons_succ, List.getElem?_cons_zero]
              go_wp2_with (first
                | ((refine no_implicit_lambda% (g24_ ?_)); intro K hK) | (refine no_implicit_lambda% (g1_ ?_)) | ((refine no_implicit_lambda% (g2_ ?_)); intro K hK) | (refine no_implicit_lambda% (g3_ ?_))
                | (go_at_call 34; refine (l1In_c _ _ _ _).mono ?_; rintro e w2 ⟨rfl, rfl⟩; rw [e1])
                | (go_at_call 78; refine (l3ClaimsOk_c A1 n1 c1 lo hi ts[j + 1].2 _ r0 (by simp; omega)).mono ?_; rintro e w2 ⟨rfl, hb2⟩; rw [e3]; have a0 := keepc hb2 a0; have p0 := keepc hb2 p0)
                | fail)
              have hb3 := hb1.drew.trans (hb2.mono hb1.size)
              go_ret
              exact ⟨by rw [hno.out]; rfl, hb3⟩
            · have hb1 := hbr
              have hz1 := Nat.le_refl wr.heap.size
              go_wp2
              have r0 := r0.below (flat_kept _) ((Below.refl wr.heap.size wr).drew) (by omega)
              refine wp_region_T (fun _ => True) [] [] [] [0, 1, 2, 3, 4, 5, 6, 7, 8, 9, 10, 11, 12, 13, 14, 15, 16, 17, 18, 19, 20, 21, 22, 23, 24, 25, 26, 27, 28, 29, 30, 31, 32, 33] (by kernel_rfl) (by kernel_rfl) (by kernel_rfl) trivial ?_; simp only [pickL, List.getElem?_cons_succ, List.getElem?_cons_zero]
              go_wp2_with (first
                | ((refine no_implicit_lambda% (g24_ ?_)); intro K hK) | (refine no_implicit_lambda% (g1_ ?_)) | ((refine no_implicit_lambda% (g2_ ?_)); intro K hK) | (refine no_implicit_lambda% (g3_ ?_))
                | (go_at_call 34; refine (l1In_c _ _ _ _).mono ?_; rintro e w2 ⟨rfl, rfl⟩; rw [e1])
                | (go_at_call 78; refine (l3ClaimsOk_c A1 n1 c1 lo hi ts[j + 1].2 _ r0 (by simp; omega)).mono ?_; rintro e w2 ⟨rfl, hb2⟩; rw [e3]; have a0 := keepc hb2 a0; have p0 := keepc hb2 p0)
                | fail)
              have hb3 := hb1.drew.trans (hb2.mono hb1.size)
              go_ret
              exact ⟨by rw [hno.out]; rfl, hb3⟩
        · rcases Nat.eq_zero_or_pos k with rfl | hpos
          · have hyes : Hid (goodV ts 0) := hide ⟨hlx, e1, of_decide_eq_true e3, fun h => absurd h (by omega)⟩
            simp only [Nat.zero_mul, Nat.add_zero] at a0 a1
            have hb1 := hbr
            have hz1 := Nat.le_refl wr.heap.size
            go_wp2
            have r0 := r0.below (flat_kept _) ((Below.refl wr.heap.size wr).drew) (by omega)
            refine wp_region_T (fun _ => True) [] [] [] [0, 1, 2, 3, 4, 5, 6, 7, 8, 9, 10, 11, 12, 13, 14, 15, 16, 17, 18, 19, 20, 21, 22, 23, 24, 25, 26, 27, 28, 29, 30, 31, 32, 33] (by kernel_rfl) (by kernel_rfl) (by kernel_rfl) trivial ?_; simp only [pickL, List.getElem?_cons_succ, List.getElem?_cons_zero]
            go_wp2_with (first
              | ((refine no_implicit_lambda% (g24_ ?_)); intro K hK) | (refine no_implicit_lambda% (g1_ ?_)) | ((refine no_implicit_lambda% (g2_ ?_)); intro K hK) | (refine no_implicit_lambda% (g3_ ?_))
              | (go_at_call 34; refine (l1In_c _ _ _ _).mono ?_; rintro e w2 ⟨rfl, rfl⟩; rw [e1])
              | (go_at_call 78; refine (l3ClaimsOk_c A1 n1 c1 lo hi ts[0].2 _ r0 (by simp; omega)).mono ?_; rintro e w2 ⟨rfl, hb2⟩; rw [e3])
              | fail)
            have hb3 := hb1.drew.trans (hb2.mono hb1.size)
            go_roundw
            case rel => exact ⟨0 + 1, by omega, by go_num, hide (allTo_succ hgo.out hyes.out), hb3⟩
            case measure => simp [intOf]; omega
          · obtain ⟨j, rfl⟩ : ∃ j, k = j + 1 := ⟨k - 1, by omega⟩
            have hlj : j < ts.length := by omega
            obtain ⟨_, _, _, p0, _⟩ := (hs.below vote_kept hbr hhi).vote hlj
            cases e2 : decide (ts[j + 1].1 ≤ ts[j].1)
            · have hyes : Hid (goodV ts (j + 1)) := hide ⟨hlx, e1, of_decide_eq_true e3, fun h => by have := of_decide_eq_false e2; simp only [Nat.add_sub_cancel]; omega⟩
              have hb1 := hbr
              have hz1 := Nat.le_refl wr.heap.size
              go_wp2
              have r0 := r0.below (flat_kept _) ((Below.refl wr.heap.size wr).drew) (by omega)
              refine wp_region_T (fun _ => True) [] [] [] [0, 1, 2, 3, 4, 5, 6, 7, 8, 9, 10, 11, 12, 13, 14, 15, 16, 17, 18, 19, 20, 21, 22, 23, 24, 25, 26, 27, 28, 29, 30, 31, 32, 33] (by kernel_rfl) (by kernel_rfl) (by kernel_rfl) trivial ?_; simp only [pickL, List.getElem?_cons_succ, List.getElem?_cons_zero]
              go_wp2_with (first
                | ((refine no_implicit_lambda% (g24_ ?_)); intro K hK) | (refine no_implicit_lambda% (g1_ ?_)) | ((refine no_implicit_lambda% (g2_ ?_)); intro K hK) | (refine no_implicit_lambda% (g3_ ?_))
                | (go_at_call 34; refine (l1In_c _ _ _ _).mono ?_; rintro e w2 ⟨rfl, rfl⟩; rw [e1])
                | (go_at_call 78; refine (l3ClaimsOk_c A1 n1 c1 lo hi ts[j + 1].2 _ r0 (by simp; omega)).mono ?_; rintro e w2 ⟨rfl, hb2⟩; rw [e3]; have a0 := keepc hb2 a0; have p0 := keepc hb2 p0)
                | fail)
              have hb3 := hb1.drew.trans (hb2.mono hb1.size)
              go_roundw
              case rel => exact ⟨j + 1 + 1, by omega, by go_num, hide (allTo_succ hgo.out hyes.out), hb3⟩
              case measure => simp [intOf]; omega
            · have hno := hide (not_okVs hlx (fun ⟨_, _, _, h⟩ => by have h1 := of_decide_eq_true e2; have h2 := h (by omega); simp only [Nat.add_sub_cancel] at h2; omega))
              have hb1 := hbr
              have hz1 := Nat.le_refl wr.heap.size
              go_wp2
              have r0 := r0.below (flat_kept _) ((Below.refl wr.heap.size wr).drew) (by omega)
              refine wp_region_T (fun _ => True) [] [] [] [0, 1, 2, 3, 4, 5, 6, 7, 8, 9, 10, 11, 12, 13, 14, 15, 16, 17, 18, 19, 20, 21, 22, 23, 24, 25, 26, 27, 28, 29, 30, 31, 32, 33] (by kernel_rfl) (by kernel_rfl) (by kernel_rfl) trivial ?_; simp only [pickL, List.getElem?_cons_succ, List.getElem?_cons_zero]
              go_wp2_with (first
                | ((refine no_implicit_lambda% (g24_ ?_)); intro K hK) | (refine no_implicit_lambda% (g1_ ?_)) | ((refine no_implicit_lambda% (g2_ ?_)); intro K hK) | (refine no_implicit_lambda% (g3_ ?_))
                | (go_at_call 34; refine (l1In_c _ _ _ _).mono ?_; rintro e w2 ⟨rfl, rfl⟩; rw [e1])
                | (go_at_call 78; refine (l3ClaimsOk_c A1 n1 c1 lo hi ts[j + 1].2 _ r0 (by simp; omega)).mono ?_; rintro e w2 ⟨rfl, hb2⟩; rw [e3]; have a0 := keepc hb2 a0; have p0 := keepc hb2 p0)
                | fail)
              have hb3 := hb1.drew.trans (hb2.mono hb1.size)
              go_ret
              exact ⟨by rw [hno.out]; rfl, hb3⟩
    · obtain rfl : k = n := by omega
      go_wp2
      go_ret
      exact ⟨by rw [is_okVs hn'.out hgo.out]; rfl, hbr⟩
end Go.Proofs.Ytopmbnnjhoinkaa
