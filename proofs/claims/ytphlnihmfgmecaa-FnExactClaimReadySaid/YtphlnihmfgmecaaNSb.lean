/-
  Whether a claim is proposed, ready, done, in the program. (Printed by gen_nsa.py.)
  Conditions: none.
-/
import Derived.Test.YtphlnihmfgmecaaNSa
namespace Go.Proofs.Ytphlnihmfgmecaa
open Go.RowKit Rg Go.Maps
set_option linter.unusedVariables false
set_option linter.unusedSimpArgs false

theorem count_dec (m : Nat) (k : Nat) : decide ((k : Int) ≤ (m : Int)) = decide (k ≤ m) := by simp

set_option maxRecDepth 100000 in
theorem backed_c (A : Option Addr) (n c0 lo hi : Nat) (ts : List MsgT) (c : ClaimT) (w : World) (hs : RdN 11 msgR w lo hi A n c0 ts) (hhi : hi ≤ w.heap.size) :
    Calls Try.prog 121 #[.slice A n c0, .agg #[.int .i64 c.1, .int .i64 c.2.1, .int .i64 c.2.2.1, .int .i64 c.2.2.2.1, .int .i64 c.2.2.2.2.1, .int .i64 c.2.2.2.2.2.1, .int .i64 c.2.2.2.2.2.2]] w fun e w' => e = .returned (.bool (decide (2 ≤ countOf ts 3 c (leadI c.2.1)))) ∧ Below w.heap.size w w' := by
  generalize hm : countOf ts 3 c (leadI c.2.1) = m
  have hm' := hide hm
  clear hm
  have hA := (Below.refl w.heap.size w).alloc (Nat.le_refl _) (.cells #[.int .i64 c.1, .int .i64 c.2.1, .int .i64 c.2.2.1, .int .i64 c.2.2.2.1, .int .i64 c.2.2.2.2.1, .int .i64 c.2.2.2.2.2.1, .int .i64 c.2.2.2.2.2.2] 34)
  have hz := hA.size
  have q0 := BxC.made w c
  have hl := q0.lt
  have hs1 := hs.below msg_kept hA hhi
  obtain ⟨y0, y1, y2, y3, y4, y5, y6, yf0, yf1, yf2, yf3, yf4, yf5, yf6⟩ := q0.cells
  go_enter Try.func121, Try.ntmps121
  go_wp2
  generalize w.alloc (.cells #[.int .i64 c.1, .int .i64 c.2.1, .int .i64 c.2.2.1, .int .i64 c.2.2.2.1, .int .i64 c.2.2.2.2.1, .int .i64 c.2.2.2.2.2.1, .int .i64 c.2.2.2.2.2.2] 34) = w0 at *
  have hsn := hide (fun W (h : Below w0.heap.size w0 W) => senders_c A n c0 lo hi ts 3 c (leadI c.2.1) W (hs1.below msg_kept h (Nat.le_trans hhi hz)) (Nat.le_trans hhi (Nat.le_trans hz h.size)))
  refine wp_region_T (Since _) [] [] [6] [0, 1, 2, 3, 4, 5, 6, 7] (by kernel_rfl) (by kernel_rfl) (by kernel_rfl) (Since.drew _) ?_; simp only [pickL, List.getElem?_cons_succ, List.getElem?_cons_zero]
  go_wp2_with (first
    | (with_reducible refine Since.and_ ?_ ?_; (focus (repeat (first | (with_reducible exact Since.refl _) | assumption | (with_reducible refine Since.drewR ?_) | (with_reducible refine Since.alloc ?_ _) | ((with_reducible apply Since.below); rotate_left; (focus assumption))))); intro hS) | ((with_reducible refine wpT_q0 ?_ ?_ ?_ ?_); (focus rfl); (focus rfl); (focus rfl); intro K hK) | ((with_reducible apply wpT_l); (focus rfl); (focus rfl); (focus rfl); (focus rfl); (focus (first | exact Since.drew _ | assumption)); (focus (simp <;> omega)); (focus go_simp); intro K hK) | ((with_reducible refine wpT_xs0 ?_ ?_ ?_); (focus rfl); (focus rfl); intro K hK) | ((with_reducible refine wpT_noL ?_ ?_); (focus (first | exact wanted_no _ _ _ rfl rfl rfl | exact wanted_un _ _ _ rfl rfl rfl)); simp only [setO, List.set_cons_succ, List.set_cons_zero]) | ((with_reducible refine wpT_q1 ?_ ?_ ?_ ?_); (focus exact wanted_yes _ _ _ rfl rfl rfl); (focus rfl); (focus rfl); intro K hK) | ((with_reducible refine wpT_xs1 ?_ ?_ ?_); (focus exact wanted_yes _ _ _ rfl rfl rfl); (focus rfl); intro K hK) | ((with_reducible refine wpT_nil ?_); try dsimp only)
    | (go_at_call 160; refine (Leader_c _ _).mono ?_; rintro e w2 ⟨rfl, rfl⟩)
    | (go_at_call 161; refine (hsn.out _ (below_drewN _ 1)).mono ?_; rintro e w2 ⟨rfl, hb2⟩; rw [hm'.out]; replace hb2 : Below w0.drew.heap.size w0.drew w2 := hb2)
    | fail)
  go_ret
  exact ⟨congrArg (fun b => Ending.returned (.bool b)) (by rw [Bool.eq_iff_iff]; simp; omega), (hA.trans ((below_drewN' (Below.refl _ _) 1).mono hz)).trans (hb2.mono hz)⟩
theorem sealed_c (A : Option Addr) (n c0 lo hi : Nat) (ts : List MsgT) (c : ClaimT) (w : World) (hs : RdN 11 msgR w lo hi A n c0 ts) (hhi : hi ≤ w.heap.size) :
    Calls Try.prog 135 #[.slice A n c0, .agg #[.int .i64 c.1, .int .i64 c.2.1, .int .i64 c.2.2.1, .int .i64 c.2.2.2.1, .int .i64 c.2.2.2.2.1, .int .i64 c.2.2.2.2.2.1, .int .i64 c.2.2.2.2.2.2]] w fun e w' => e = .returned (.bool (decide (3 ≤ countOf ts 4 c (-1)))) ∧ Below w.heap.size w w' := by
  generalize hm : countOf ts 4 c (-1) = m
  have hm' := hide hm
  clear hm
  have hA := (Below.refl w.heap.size w).alloc (Nat.le_refl _) (.cells #[.int .i64 c.1, .int .i64 c.2.1, .int .i64 c.2.2.1, .int .i64 c.2.2.2.1, .int .i64 c.2.2.2.2.1, .int .i64 c.2.2.2.2.2.1, .int .i64 c.2.2.2.2.2.2] 34)
  have hz := hA.size
  have q0 := BxC.made w c
  have hl := q0.lt
  have hs1 := hs.below msg_kept hA hhi
  obtain ⟨y0, y1, y2, y3, y4, y5, y6, yf0, yf1, yf2, yf3, yf4, yf5, yf6⟩ := q0.cells
  go_enter Try.func135, Try.ntmps135
  go_wp2_with fail
  refine (senders_c A n c0 lo hi ts 4 c (-1) _ hs1 (Nat.le_trans hhi hz)).mono ?_
  rintro e w2 ⟨rfl, hb2⟩
  rw [hm'.out]
  go_wp2
  go_ret
  exact ⟨congrArg (fun b => Ending.returned (.bool b)) (by rw [Bool.eq_iff_iff]; simp; omega), hA.trans (hb2.mono hz)⟩
/-- Whether a letter offers a claim, as the program asks it. -/
def offersI (c : ClaimT) (m : MsgT) : Bool := decide (m.2.1 = leadI c.2.1 ∧ m.2.2.1 = c.2.1 ∧ ((m.1 = 2 ∧ m.2.2.2.1 = c.1 ∧ m.2.2.2.2.1 = c.2.2) ∨ (m.1 = 6 ∧ (reachB c.1 (clsOf m.2.2.2.2.2.2) && decide (1 ≤ c.1)) = true ∧ pickOf (clsOf m.2.2.2.2.2.2) c.1 = c.2.2)))
theorem offersI_eq {c : ClaimT} (h : okCl c = true) (m : MsgT) : offersI c m = offers c m := by
  unfold okCl at h
  simp only [Bool.and_eq_true] at h
  obtain ⟨h1, h2, _⟩ := h
  have h3 : 1 ≤ c.1 := by unfold inB at h1; simp at h1; omega
  have h4 : leadI c.2.1 = leadOf c.2.1 := by unfold leadI leadOf; rw [h2]; rfl
  unfold offersI offers
  rw [h4, reach_iff h3]
  simp [h3]

set_option maxRecDepth 100000 in
set_option maxHeartbeats 4000000 in
theorem proposed1_c (x : MsgT) (c : ClaimT) (A1 B1 : Option Addr) (n1 c1 p1 d1 lo hi b : Nat) (w : World) (h1 : RdN 7 clR w lo hi A1 n1 c1 x.2.2.2.2.2.1) (h2 : RdN 2 voteR w lo hi B1 p1 d1 x.2.2.2.2.2.2) (hb : BxC w b c) (hhi : hi ≤ w.heap.size) :
    Calls Try.prog 159 #[.agg #[.int .i64 x.1, .int .i64 x.2.1, .int .i64 x.2.2.1, .int .i64 x.2.2.2.1, .int .i64 x.2.2.2.2.1.1, .int .i64 x.2.2.2.2.1.2.1, .int .i64 x.2.2.2.2.1.2.2.1, .int .i64 x.2.2.2.2.1.2.2.2.1, .int .i64 x.2.2.2.2.1.2.2.2.2, .slice A1 n1 c1, .slice B1 p1 d1], .pointer (some ⟨b, 0, none⟩)] w fun e w' => e = .returned (.bool (offersI c x)) ∧ Below w.heap.size w w' := by
  have hA := (Below.refl w.heap.size w).alloc (Nat.le_refl _) (.cells #[.int .i64 x.1, .int .i64 x.2.1, .int .i64 x.2.2.1, .int .i64 x.2.2.2.1, .int .i64 x.2.2.2.2.1.1, .int .i64 x.2.2.2.2.1.2.1, .int .i64 x.2.2.2.2.1.2.2.1, .int .i64 x.2.2.2.2.1.2.2.2.1, .int .i64 x.2.2.2.2.1.2.2.2.2, .slice A1 n1 c1, .slice B1 p1 d1] 51)
  have hz := hA.size
  have hlt := hb.lt
  have hB := hA.drew
  obtain ⟨y0, y1, y2, y3, y4, y5, y6, yf0, yf1, yf2, yf3, yf4, yf5, yf6⟩ := (hb.below hA).cells
  have hr := fun W => run_eq_req x.2.2.2.2.1 c.2.2 W
  have hv := h2.below vote_kept hA hhi
  have hne : b ≠ w.heap.size := by omega
  have x0 : (w.alloc (.cells #[.int .i64 x.1, .int .i64 x.2.1, .int .i64 x.2.2.1, .int .i64 x.2.2.2.1, .int .i64 x.2.2.2.2.1.1, .int .i64 x.2.2.2.2.1.2.1, .int .i64 x.2.2.2.2.1.2.2.1, .int .i64 x.2.2.2.2.1.2.2.2.1, .int .i64 x.2.2.2.2.1.2.2.2.2, .slice A1 n1 c1, .slice B1 p1 d1] 51)).cell? ⟨w.heap.size, 0, none⟩ = some (.int .i64 x.1) := by simp
  have x1 : (w.alloc (.cells #[.int .i64 x.1, .int .i64 x.2.1, .int .i64 x.2.2.1, .int .i64 x.2.2.2.1, .int .i64 x.2.2.2.2.1.1, .int .i64 x.2.2.2.2.1.2.1, .int .i64 x.2.2.2.2.1.2.2.1, .int .i64 x.2.2.2.2.1.2.2.2.1, .int .i64 x.2.2.2.2.1.2.2.2.2, .slice A1 n1 c1, .slice B1 p1 d1] 51)).cell? ⟨w.heap.size, 1, none⟩ = some (.int .i64 x.2.1) := by simp
  have x2 : (w.alloc (.cells #[.int .i64 x.1, .int .i64 x.2.1, .int .i64 x.2.2.1, .int .i64 x.2.2.2.1, .int .i64 x.2.2.2.2.1.1, .int .i64 x.2.2.2.2.1.2.1, .int .i64 x.2.2.2.2.1.2.2.1, .int .i64 x.2.2.2.2.1.2.2.2.1, .int .i64 x.2.2.2.2.1.2.2.2.2, .slice A1 n1 c1, .slice B1 p1 d1] 51)).cell? ⟨w.heap.size, 2, none⟩ = some (.int .i64 x.2.2.1) := by simp
  have x3 : (w.alloc (.cells #[.int .i64 x.1, .int .i64 x.2.1, .int .i64 x.2.2.1, .int .i64 x.2.2.2.1, .int .i64 x.2.2.2.2.1.1, .int .i64 x.2.2.2.2.1.2.1, .int .i64 x.2.2.2.2.1.2.2.1, .int .i64 x.2.2.2.2.1.2.2.2.1, .int .i64 x.2.2.2.2.1.2.2.2.2, .slice A1 n1 c1, .slice B1 p1 d1] 51)).cell? ⟨w.heap.size, 3, none⟩ = some (.int .i64 x.2.2.2.1) := by simp
  have x4 : (w.alloc (.cells #[.int .i64 x.1, .int .i64 x.2.1, .int .i64 x.2.2.1, .int .i64 x.2.2.2.1, .int .i64 x.2.2.2.2.1.1, .int .i64 x.2.2.2.2.1.2.1, .int .i64 x.2.2.2.2.1.2.2.1, .int .i64 x.2.2.2.2.1.2.2.2.1, .int .i64 x.2.2.2.2.1.2.2.2.2, .slice A1 n1 c1, .slice B1 p1 d1] 51)).cell? ⟨w.heap.size, 4, none⟩ = some (.int .i64 x.2.2.2.2.1.1) := by simp
  have x5 : (w.alloc (.cells #[.int .i64 x.1, .int .i64 x.2.1, .int .i64 x.2.2.1, .int .i64 x.2.2.2.1, .int .i64 x.2.2.2.2.1.1, .int .i64 x.2.2.2.2.1.2.1, .int .i64 x.2.2.2.2.1.2.2.1, .int .i64 x.2.2.2.2.1.2.2.2.1, .int .i64 x.2.2.2.2.1.2.2.2.2, .slice A1 n1 c1, .slice B1 p1 d1] 51)).cell? ⟨w.heap.size, 5, none⟩ = some (.int .i64 x.2.2.2.2.1.2.1) := by simp
  have x6 : (w.alloc (.cells #[.int .i64 x.1, .int .i64 x.2.1, .int .i64 x.2.2.1, .int .i64 x.2.2.2.1, .int .i64 x.2.2.2.2.1.1, .int .i64 x.2.2.2.2.1.2.1, .int .i64 x.2.2.2.2.1.2.2.1, .int .i64 x.2.2.2.2.1.2.2.2.1, .int .i64 x.2.2.2.2.1.2.2.2.2, .slice A1 n1 c1, .slice B1 p1 d1] 51)).cell? ⟨w.heap.size, 6, none⟩ = some (.int .i64 x.2.2.2.2.1.2.2.1) := by simp
  have x7 : (w.alloc (.cells #[.int .i64 x.1, .int .i64 x.2.1, .int .i64 x.2.2.1, .int .i64 x.2.2.2.1, .int .i64 x.2.2.2.2.1.1, .int .i64 x.2.2.2.2.1.2.1, .int .i64 x.2.2.2.2.1.2.2.1, .int .i64 x.2.2.2.2.1.2.2.2.1, .int .i64 x.2.2.2.2.1.2.2.2.2, .slice A1 n1 c1, .slice B1 p1 d1] 51)).cell? ⟨w.heap.size, 7, none⟩ = some (.int .i64 x.2.2.2.2.1.2.2.2.1) := by simp
  have x8 : (w.alloc (.cells #[.int .i64 x.1, .int .i64 x.2.1, .int .i64 x.2.2.1, .int .i64 x.2.2.2.1, .int .i64 x.2.2.2.2.1.1, .int .i64 x.2.2.2.2.1.2.1, .int .i64 x.2.2.2.2.1.2.2.1, .int .i64 x.2.2.2.2.1.2.2.2.1, .int .i64 x.2.2.2.2.1.2.2.2.2, .slice A1 n1 c1, .slice B1 p1 d1] 51)).cell? ⟨w.heap.size, 8, none⟩ = some (.int .i64 x.2.2.2.2.1.2.2.2.2) := by simp
  have x9 : (w.alloc (.cells #[.int .i64 x.1, .int .i64 x.2.1, .int .i64 x.2.2.1, .int .i64 x.2.2.2.1, .int .i64 x.2.2.2.2.1.1, .int .i64 x.2.2.2.2.1.2.1, .int .i64 x.2.2.2.2.1.2.2.1, .int .i64 x.2.2.2.2.1.2.2.2.1, .int .i64 x.2.2.2.2.1.2.2.2.2, .slice A1 n1 c1, .slice B1 p1 d1] 51)).cell? ⟨w.heap.size, 9, none⟩ = some (.slice A1 n1 c1) := by simp
  have x10 : (w.alloc (.cells #[.int .i64 x.1, .int .i64 x.2.1, .int .i64 x.2.2.1, .int .i64 x.2.2.2.1, .int .i64 x.2.2.2.2.1.1, .int .i64 x.2.2.2.2.1.2.1, .int .i64 x.2.2.2.2.1.2.2.1, .int .i64 x.2.2.2.2.1.2.2.2.1, .int .i64 x.2.2.2.2.1.2.2.2.2, .slice A1 n1 c1, .slice B1 p1 d1] 51)).cell? ⟨w.heap.size, 10, none⟩ = some (.slice B1 p1 d1) := by simp
  have hl2 : w.heap.size < (w.alloc (.cells #[.int .i64 x.1, .int .i64 x.2.1, .int .i64 x.2.2.1, .int .i64 x.2.2.2.1, .int .i64 x.2.2.2.2.1.1, .int .i64 x.2.2.2.2.1.2.1, .int .i64 x.2.2.2.2.1.2.2.1, .int .i64 x.2.2.2.2.1.2.2.2.1, .int .i64 x.2.2.2.2.1.2.2.2.2, .slice A1 n1 c1, .slice B1 p1 d1] 51)).heap.size := by simp
  generalize hw0 : w.alloc (.cells #[.int .i64 x.1, .int .i64 x.2.1, .int .i64 x.2.2.1, .int .i64 x.2.2.2.1, .int .i64 x.2.2.2.2.1.1, .int .i64 x.2.2.2.2.1.2.1, .int .i64 x.2.2.2.2.1.2.2.1, .int .i64 x.2.2.2.2.1.2.2.2.1, .int .i64 x.2.2.2.2.1.2.2.2.2, .slice A1 n1 c1, .slice B1 p1 d1] 51) = w0 at *
  have hw0' := hide hw0
  clear hw0
  cases e1 : (x.2.1 != leadI c.2.1)
  · have e1' : x.2.1 = leadI c.2.1 := by simpa using e1
    have e1h := hide e1'
    clear e1'
    cases e2 : (x.2.2.1 != c.2.1)
    · have e2h : Hid (x.2.2.1 = c.2.1) := hide (by simpa using e2)
      cases e3 : (x.1 == 2)
      · have e3h : Hid (¬ x.1 = 2) := hide (by simpa using e3)
        cases e4 : (x.1 == 6)
        · have e4h : Hid (¬ x.1 = 6) := hide (by simpa using e4)
          go_enter Try.func159, Try.ntmps159
          go_wp2
          rw [hw0'.out]
          refine wp_region_T (Since _) [51] [] [7] [0, 1, 2, 3, 4, 5, 6, 7, 8, 9, 10, 11, 12] (by kernel_rfl) (by kernel_rfl) (by kernel_rfl) (Since.drew _) ?_; simp only [pickL, List.getElem?_cons_succ, List.getElem?_cons_zero]
          go_wp2_with (first
            | (with_reducible refine Since.and_ ?_ ?_; (focus (repeat (first | (with_reducible exact Since.refl _) | assumption | (with_reducible refine Since.drewR ?_) | (with_reducible refine Since.alloc ?_ _) | ((with_reducible apply Since.below); rotate_left; (focus assumption))))); intro hS) | ((with_reducible refine wpT_q0 ?_ ?_ ?_ ?_); (focus rfl); (focus rfl); (focus rfl); intro K hK) | ((with_reducible apply wpT_l); (focus rfl); (focus rfl); (focus rfl); (focus rfl); (focus (first | exact Since.drew _ | assumption)); (focus (simp <;> omega)); (focus go_simp); intro K hK) | ((with_reducible refine wpT_xs0 ?_ ?_ ?_); (focus rfl); (focus rfl); intro K hK) | ((with_reducible refine wpT_noL ?_ ?_); (focus (first | exact wanted_no _ _ _ rfl rfl rfl | exact wanted_un _ _ _ rfl rfl rfl)); simp only [setO, List.set_cons_succ, List.set_cons_zero]) | ((with_reducible refine wpT_q1 ?_ ?_ ?_ ?_); (focus exact wanted_yes _ _ _ rfl rfl rfl); (focus rfl); (focus rfl); intro K hK) | ((with_reducible refine wpT_xs1 ?_ ?_ ?_); (focus exact wanted_yes _ _ _ rfl rfl rfl); (focus rfl); intro K hK) | ((with_reducible refine wpT_nil ?_); try dsimp only)
            | (go_at_call 160; refine (Leader_c _ _).mono ?_; rintro e w2 ⟨rfl, rfl⟩)
            | fail)
          go_ret
          exact ⟨by simp [offersI, e3h.out, e4h.out], hB⟩
        · have e4h : Hid (x.1 = 6) := hide (by simpa using e4)
          have hp := hide (fun W (h : Below w0.heap.size w0 W) => picked_c B1 p1 d1 lo hi x.2.2.2.2.2.2 c.1 W (hv.below vote_kept h (Nat.le_trans hhi hz)) (Nat.le_trans hhi (Nat.le_trans hz h.size)))
          have hr := fun W => run_eq_req (pickOf (clsOf x.2.2.2.2.2.2) c.1) c.2.2 W
          have hof : Hid (offersI c x = (reachB c.1 (clsOf x.2.2.2.2.2.2) && decide (1 ≤ c.1) && decide (pickOf (clsOf x.2.2.2.2.2.2) c.1 = c.2.2))) := hide (by unfold offersI; rw [Bool.eq_iff_iff]; simp [e1h.out, e2h.out, e4h.out])
          have hC := below_drewN w0 1
          have y0 := keepc hC y0
          have y1 := keepc hC y1
          have y2 := keepc hC y2
          have y3 := keepc hC y3
          have y4 := keepc hC y4
          have y5 := keepc hC y5
          have y6 := keepc hC y6
          go_enter Try.func159, Try.ntmps159
          go_wp2
          rw [hw0'.out]
          refine wp_region_T (Since _) [51] [] [7] [0, 1, 2, 3, 4, 5, 6, 7, 8, 9, 10, 11, 12] (by kernel_rfl) (by kernel_rfl) (by kernel_rfl) (Since.drew _) ?_; simp only [pickL, List.getElem?_cons_succ, List.getElem?_cons_zero]
          go_wp2_with (first
            | (with_reducible refine Since.and_ ?_ ?_; (focus (repeat (first | (with_reducible exact Since.refl _) | assumption | (with_reducible refine Since.drewR ?_) | (with_reducible refine Since.alloc ?_ _) | ((with_reducible apply Since.below); rotate_left; (focus assumption))))); intro hS) | ((with_reducible refine wpT_q0 ?_ ?_ ?_ ?_); (focus rfl); (focus rfl); (focus rfl); intro K hK) | ((with_reducible apply wpT_l); (focus rfl); (focus rfl); (focus rfl); (focus rfl); (focus (first | exact Since.drew _ | assumption)); (focus (simp <;> omega)); (focus go_simp); intro K hK) | ((with_reducible refine wpT_xs0 ?_ ?_ ?_); (focus rfl); (focus rfl); intro K hK) | ((with_reducible refine wpT_noL ?_ ?_); (focus (first | exact wanted_no _ _ _ rfl rfl rfl | exact wanted_un _ _ _ rfl rfl rfl)); simp only [setO, List.set_cons_succ, List.set_cons_zero]) | ((with_reducible refine wpT_q1 ?_ ?_ ?_ ?_); (focus exact wanted_yes _ _ _ rfl rfl rfl); (focus rfl); (focus rfl); intro K hK) | ((with_reducible refine wpT_xs1 ?_ ?_ ?_); (focus exact wanted_yes _ _ _ rfl rfl rfl); (focus rfl); intro K hK) | ((with_reducible refine wpT_nil ?_); try dsimp only)
            | (go_at_call 160; refine (Leader_c _ _).mono ?_; rintro e w2 ⟨rfl, rfl⟩)
            | fail)
          refine (hp.out _ hC).mono ?_
          rintro e w3 ⟨rfl, hb3⟩
          have hB3 := hB.trans (hb3.mono hB.size)
          have hl3 : b < w3.heap.size := Nat.lt_of_lt_of_le hlt hB3.size
          have y2 := keepc hb3 y2
          have y3 := keepc hb3 y3
          have y4 := keepc hb3 y4
          have y5 := keepc hb3 y5
          have y6 := keepc hb3 y6
          cases e5 : (reachB c.1 (clsOf x.2.2.2.2.2.2) && decide (1 ≤ c.1))
          · have e5h := hide e5
            go_wp2
            go_ret
            exact ⟨by rw [hof.out, e5h.out]; rfl, hB3.alloc (by have := hB3.size; omega) _⟩
          · have e5h := hide e5
            generalize pickOf (clsOf x.2.2.2.2.2.2) c.1 = pk at *
            go_wp2
            go_ret
            exact ⟨by rw [hof.out, e5h.out]; rfl, hB3.alloc (by have := hB3.size; omega) _⟩
      · have e3h : Hid (x.1 = 2) := hide (by simpa using e3)
        have hof : Hid (offersI c x = (decide (x.2.2.2.1 = c.1) && decide (x.2.2.2.2.1 = c.2.2))) := hide (by unfold offersI; rw [Bool.eq_iff_iff]; simp [e1h.out, e2h.out, e3h.out])
        cases e5 : (x.2.2.2.1 == c.1)
        · have e5h : Hid (decide (x.2.2.2.1 = c.1) = false) := hide (by simpa using e5)
          go_enter Try.func159, Try.ntmps159
          go_wp2
          rw [hw0'.out]
          refine wp_region_T (Since _) [51] [] [7] [0, 1, 2, 3, 4, 5, 6, 7, 8, 9, 10, 11, 12] (by kernel_rfl) (by kernel_rfl) (by kernel_rfl) (Since.drew _) ?_; simp only [pickL, List.getElem?_cons_succ, List.getElem?_cons_zero]
          go_wp2_with (first
            | (with_reducible refine Since.and_ ?_ ?_; (focus (repeat (first | (with_reducible exact Since.refl _) | assumption | (with_reducible refine Since.drewR ?_) | (with_reducible refine Since.alloc ?_ _) | ((with_reducible apply Since.below); rotate_left; (focus assumption))))); intro hS) | ((with_reducible refine wpT_q0 ?_ ?_ ?_ ?_); (focus rfl); (focus rfl); (focus rfl); intro K hK) | ((with_reducible apply wpT_l); (focus rfl); (focus rfl); (focus rfl); (focus rfl); (focus (first | exact Since.drew _ | assumption)); (focus (simp <;> omega)); (focus go_simp); intro K hK) | ((with_reducible refine wpT_xs0 ?_ ?_ ?_); (focus rfl); (focus rfl); intro K hK) | ((with_reducible refine wpT_noL ?_ ?_); (focus (first | exact wanted_no _ _ _ rfl rfl rfl | exact wanted_un _ _ _ rfl rfl rfl)); simp only [setO, List.set_cons_succ, List.set_cons_zero]) | ((with_reducible refine wpT_q1 ?_ ?_ ?_ ?_); (focus exact wanted_yes _ _ _ rfl rfl rfl); (focus rfl); (focus rfl); intro K hK) | ((with_reducible refine wpT_xs1 ?_ ?_ ?_); (focus exact wanted_yes _ _ _ rfl rfl rfl); (focus rfl); intro K hK) | ((with_reducible refine wpT_nil ?_); try dsimp only)
            | (go_at_call 160; refine (Leader_c _ _).mono ?_; rintro e w2 ⟨rfl, rfl⟩)
            | fail)
          go_ret
          exact ⟨by rw [hof.out, e5h.out]; rfl, hB⟩
        · have e5h : Hid (decide (x.2.2.2.1 = c.1) = true) := hide (by simpa using e5)
          go_enter Try.func159, Try.ntmps159
          go_wp2
          rw [hw0'.out]
          refine wp_region_T (Since _) [51] [] [7] [0, 1, 2, 3, 4, 5, 6, 7, 8, 9, 10, 11, 12] (by kernel_rfl) (by kernel_rfl) (by kernel_rfl) (Since.drew _) ?_; simp only [pickL, List.getElem?_cons_succ, List.getElem?_cons_zero]
          go_wp2_with (first
            | (with_reducible refine Since.and_ ?_ ?_; (focus (repeat (first | (with_reducible exact Since.refl _) | assumption | (with_reducible refine Since.drewR ?_) | (with_reducible refine Since.alloc ?_ _) | ((with_reducible apply Since.below); rotate_left; (focus assumption))))); intro hS) | ((with_reducible refine wpT_q0 ?_ ?_ ?_ ?_); (focus rfl); (focus rfl); (focus rfl); intro K hK) | ((with_reducible apply wpT_l); (focus rfl); (focus rfl); (focus rfl); (focus rfl); (focus (first | exact Since.drew _ | assumption)); (focus (simp <;> omega)); (focus go_simp); intro K hK) | ((with_reducible refine wpT_xs0 ?_ ?_ ?_); (focus rfl); (focus rfl); intro K hK) | ((with_reducible refine wpT_noL ?_ ?_); (focus (first | exact wanted_no _ _ _ rfl rfl rfl | exact wanted_un _ _ _ rfl rfl rfl)); simp only [setO, List.set_cons_succ, List.set_cons_zero]) | ((with_reducible refine wpT_q1 ?_ ?_ ?_ ?_); (focus exact wanted_yes _ _ _ rfl rfl rfl); (focus rfl); (focus rfl); intro K hK) | ((with_reducible refine wpT_xs1 ?_ ?_ ?_); (focus exact wanted_yes _ _ _ rfl rfl rfl); (focus rfl); intro K hK) | ((with_reducible refine wpT_nil ?_); try dsimp only)
            | (go_at_call 160; refine (Leader_c _ _).mono ?_; rintro e w2 ⟨rfl, rfl⟩)
            | fail)
          go_ret
          exact ⟨by rw [hof.out, e5h.out]; rfl, hB⟩
    · have e2h : Hid (¬ x.2.2.1 = c.2.1) := hide (by simpa using e2)
      go_enter Try.func159, Try.ntmps159
      go_wp2
      rw [hw0'.out]
      refine wp_region_T (Since _) [51] [] [7] [0, 1, 2, 3, 4, 5, 6, 7, 8, 9, 10, 11, 12] (by kernel_rfl) (by kernel_rfl) (by kernel_rfl) (Since.drew _) ?_; simp only [pickL, List.getElem?_cons_succ, List.getElem?_cons_zero]
      go_wp2_with (first
        | (with_reducible refine Since.and_ ?_ ?_; (focus (repeat (first | (with_reducible exact Since.refl _) | assumption | (with_reducible refine Since.drewR ?_) | (with_reducible refine Since.alloc ?_ _) | ((with_reducible apply Since.below); rotate_left; (focus assumption))))); intro hS) | ((with_reducible refine wpT_q0 ?_ ?_ ?_ ?_); (focus rfl); (focus rfl); (focus rfl); intro K hK) | ((with_reducible apply wpT_l); (focus rfl); (focus rfl); (focus rfl); (focus rfl); (focus (first | exact Since.drew _ | assumption)); (focus (simp <;> omega)); (focus go_simp); intro K hK) | ((with_reducible refine wpT_xs0 ?_ ?_ ?_); (focus rfl); (focus rfl); intro K hK) | ((with_reducible refine wpT_noL ?_ ?_); (focus (first | exact wanted_no _ _ _ rfl rfl rfl | exact wanted_un _ _ _ rfl rfl rfl)); simp only [setO, List.set_cons_succ, List.set_cons_zero]) | ((with_reducible refine wpT_q1 ?_ ?_ ?_ ?_); (focus exact wanted_yes _ _ _ rfl rfl rfl); (focus rfl); (focus rfl); intro K hK) | ((with_reducible refine wpT_xs1 ?_ ?_ ?_); (focus exact wanted_yes _ _ _ rfl rfl rfl); (focus rfl); intro K hK) | ((with_reducible refine wpT_nil ?_); try dsimp only)
        | (go_at_call 160; refine (Leader_c _ _).mono ?_; rintro e w2 ⟨rfl, rfl⟩)
        | fail)
      go_ret
      exact ⟨by simp [offersI, e2h.out], hB⟩
  · have e1h : Hid (¬ x.2.1 = leadI c.2.1) := hide (by simpa using e1)
    go_enter Try.func159, Try.ntmps159
    go_wp2
    rw [hw0'.out]
    refine wp_region_T (Since _) [51] [] [7] [0, 1, 2, 3, 4, 5, 6, 7, 8, 9, 10, 11, 12] (by kernel_rfl) (by kernel_rfl) (by kernel_rfl) (Since.drew _) ?_; simp only [pickL, List.getElem?_cons_succ, List.getElem?_cons_zero]
    go_wp2_with (first
      | (with_reducible refine Since.and_ ?_ ?_; (focus (repeat (first | (with_reducible exact Since.refl _) | assumption | (with_reducible refine Since.drewR ?_) | (with_reducible refine Since.alloc ?_ _) | ((with_reducible apply Since.below); rotate_left; (focus assumption))))); intro hS) | ((with_reducible refine wpT_q0 ?_ ?_ ?_ ?_); (focus rfl); (focus rfl); (focus rfl); intro K hK) | ((with_reducible apply wpT_l); (focus rfl); (focus rfl); (focus rfl); (focus rfl); (focus (first | exact Since.drew _ | assumption)); (focus (simp <;> omega)); (focus go_simp); intro K hK) | ((with_reducible refine wpT_xs0 ?_ ?_ ?_); (focus rfl); (focus rfl); intro K hK) | ((with_reducible refine wpT_noL ?_ ?_); (focus (first | exact wanted_no _ _ _ rfl rfl rfl | exact wanted_un _ _ _ rfl rfl rfl)); simp only [setO, List.set_cons_succ, List.set_cons_zero]) | ((with_reducible refine wpT_q1 ?_ ?_ ?_ ?_); (focus exact wanted_yes _ _ _ rfl rfl rfl); (focus rfl); (focus rfl); intro K hK) | ((with_reducible refine wpT_xs1 ?_ ?_ ?_); (focus exact wanted_yes _ _ _ rfl rfl rfl); (focus rfl); intro K hK) | ((with_reducible refine wpT_nil ?_); try dsimp only)
      | (go_at_call 160; refine (Leader_c _ _).mono ?_; rintro e w2 ⟨rfl, rfl⟩)
      | fail)
    go_ret
    exact ⟨by simp [offersI, e1h.out], hB⟩

theorem index_proposed (A : Option Addr) (n c lo hi : Nat) (ts : List MsgT) (b : Nat) (p : MsgT → Bool) (w : World) (hs : RdN 11 msgR w lo hi A n c ts) (hhi : hi ≤ w.heap.size) (hp : ∀ (k : Nat) (hk : k < ts.length) (W : World) (A1 B1 : Option Addr) (n1 c1 p1 d1 : Nat), Below w.heap.size w W → RdN 7 clR W lo hi A1 n1 c1 ts[k].2.2.2.2.2.1 → RdN 2 voteR W lo hi B1 p1 d1 ts[k].2.2.2.2.2.2 → Calls Try.prog 159 #[.agg #[.int .i64 ts[k].1, .int .i64 ts[k].2.1, .int .i64 ts[k].2.2.1, .int .i64 ts[k].2.2.2.1, .int .i64 ts[k].2.2.2.2.1.1, .int .i64 ts[k].2.2.2.2.1.2.1, .int .i64 ts[k].2.2.2.2.1.2.2.1, .int .i64 ts[k].2.2.2.2.1.2.2.2.1, .int .i64 ts[k].2.2.2.2.1.2.2.2.2, .slice A1 n1 c1, .slice B1 p1 d1], .pointer (some ⟨b, 0, none⟩)] W fun e W' => e = .returned (.bool (p ts[k])) ∧ Below W.heap.size W W') :
    Calls Try.prog 146 #[.slice A n c, .func (.func 159) #[] #[.pointer (some ⟨b, 0, none⟩)]] w fun e w' => ∃ i : Int, e = .returned (.int .i64 i) ∧ (i = -1 ∧ ts.any p = false ∨ 0 ≤ i ∧ ts.any p = true) ∧ Below w.heap.size w w' := by
  have hn' := hide hs.len
  have hc1 := hs.cap
  have hc2 := hs.max
  unfold maxLen at hc2
  have hp' := hide hp
  clear hp
  go_enter Try.func146, Try.ntmps146
  go_wp2
  go_loopw [8, 5] (fun i _ wr => ∃ k : Nat, k ≤ n ∧ i = .int .i64 k ∧ Hid (∀ j (h : j < ts.length), j < k → ¬ p ts[j] = true) ∧ Below w.heap.size w wr) (fun i _ _ => n - (intOf i).toNat)
  case atStart => exact ⟨0, Nat.zero_le _, rfl, fun j h h' => absurd h' (by omega), Below.refl _ _⟩
  case round =>
    obtain ⟨k, hk, rfl, hno, hbr⟩ := hrel
    by_cases hlt : k < n
    · have hlx : k < ts.length := by have := hn'.out; omega
      obtain ⟨b', off, rfl, hlo, hbh⟩ := hs.addr hlx
      obtain ⟨A1, n1, c1, B1, p1, d1, a0, a1, a2, a3, a4, a5, a6, a7, a8, a9, a10, r0, r1⟩ := (hs.below msg_kept hbr hhi).msg hlx
      go_wp2_with fail
      refine (hp'.out k hlx wr _ _ _ _ _ _ hbr r0 r1).mono ?_
      rintro e w1 ⟨rfl, hb1⟩
      cases he : p ts[k]
      · have he' := hide he
        go_wp2
        go_roundw
        case rel => exact ⟨k + 1, by omega, by go_num, fun j hj hjk h => by
          by_cases h2 : j < k
          · exact hno.out j hj h2 h
          · obtain rfl : j = k := by omega
            have := he'.out
            simp [h] at this, hbr.trans (hb1.mono hbr.size)⟩
        case measure => simp [intOf]; omega
      · have he' : Hid (ts.any p = true) := hide (List.any_eq_true.2 ⟨ts[k], List.getElem_mem hlx, he⟩)
        go_wp2
        go_ret
        exact ⟨k, rfl, .inr ⟨by omega, he'.out⟩, hbr.trans (hb1.mono hbr.size)⟩
    · obtain rfl : k = n := by omega
      go_wp2
      go_ret
      refine ⟨-1, rfl, .inl ⟨rfl, ?_⟩, hbr⟩
      simp only [List.any_eq_false]
      intro x hx
      obtain ⟨j, hj, rfl⟩ := List.mem_iff_getElem.1 hx
      exact hno.out j hj (by have := hn'.out; omega)
theorem contains_proposed (A : Option Addr) (n c lo hi : Nat) (ts : List MsgT) (b : Nat) (p : MsgT → Bool) (w : World) (hs : RdN 11 msgR w lo hi A n c ts) (hhi : hi ≤ w.heap.size) (hp : ∀ (k : Nat) (hk : k < ts.length) (W : World) (A1 B1 : Option Addr) (n1 c1 p1 d1 : Nat), Below w.heap.size w W → RdN 7 clR W lo hi A1 n1 c1 ts[k].2.2.2.2.2.1 → RdN 2 voteR W lo hi B1 p1 d1 ts[k].2.2.2.2.2.2 → Calls Try.prog 159 #[.agg #[.int .i64 ts[k].1, .int .i64 ts[k].2.1, .int .i64 ts[k].2.2.1, .int .i64 ts[k].2.2.2.1, .int .i64 ts[k].2.2.2.2.1.1, .int .i64 ts[k].2.2.2.2.1.2.1, .int .i64 ts[k].2.2.2.2.1.2.2.1, .int .i64 ts[k].2.2.2.2.1.2.2.2.1, .int .i64 ts[k].2.2.2.2.1.2.2.2.2, .slice A1 n1 c1, .slice B1 p1 d1], .pointer (some ⟨b, 0, none⟩)] W fun e W' => e = .returned (.bool (p ts[k])) ∧ Below W.heap.size W W') :
    Calls Try.prog 91 #[.slice A n c, .func (.func 159) #[] #[.pointer (some ⟨b, 0, none⟩)]] w fun e w' => e = .returned (.bool (ts.any p)) ∧ Below w.heap.size w w' := by
  have hp' := hide hp
  clear hp
  go_enter Try.func91, Try.ntmps91
  go_wp2_with fail
  refine (index_proposed A n c lo hi ts b p w hs hhi hp'.out).mono ?_
  rintro e w1 ⟨i, rfl, hi, hb1⟩
  rcases hi with ⟨rfl, h⟩ | ⟨h1, h⟩
  · have h' := hide h
    go_wp2
    go_ret
    exact ⟨by rw [h'.out]; rfl, hb1⟩
  · have h' := hide h
    have d1 : decide (0 ≤ i) = true := by simpa using h1
    go_wp2
    go_ret
    exact ⟨by rw [h'.out]; simp [h1], hb1⟩

theorem proposed_c (A : Option Addr) (n c0 lo hi : Nat) (ts : List MsgT) (c : ClaimT) (w : World) (hs : RdN 11 msgR w lo hi A n c0 ts) (hhi : hi ≤ w.heap.size) :
    Calls Try.prog 120 #[.slice A n c0, .agg #[.int .i64 c.1, .int .i64 c.2.1, .int .i64 c.2.2.1, .int .i64 c.2.2.2.1, .int .i64 c.2.2.2.2.1, .int .i64 c.2.2.2.2.2.1, .int .i64 c.2.2.2.2.2.2]] w fun e w' => e = .returned (.bool (ts.any (offersI c))) ∧ Below w.heap.size w w' := by
  have hA := (Below.refl w.heap.size w).alloc (Nat.le_refl _) (.cells #[.int .i64 c.1, .int .i64 c.2.1, .int .i64 c.2.2.1, .int .i64 c.2.2.2.1, .int .i64 c.2.2.2.2.1, .int .i64 c.2.2.2.2.2.1, .int .i64 c.2.2.2.2.2.2] 34)
  have hz := hA.size
  have q0 := BxC.made w c
  have hl := q0.lt
  have hs1 := hs.below msg_kept hA hhi
  obtain ⟨y0, y1, y2, y3, y4, y5, y6, yf0, yf1, yf2, yf3, yf4, yf5, yf6⟩ := q0.cells
  go_enter Try.func120, Try.ntmps120
  go_wp2_with fail
  refine (contains_proposed A n c0 lo hi ts w.heap.size (offersI c) _ hs1 (Nat.le_trans hhi hz) (fun k hk W A1 B1 n1 c1 p1 d1 hW r1 r2 => proposed1_c ts[k] c A1 B1 n1 c1 p1 d1 lo hi w.heap.size W r1 r2 (q0.below hW) (Nat.le_trans (Nat.le_trans hhi hz) hW.size))).mono ?_
  rintro e w1 ⟨rfl, hb1⟩
  go_wp2
  go_ret
  exact ⟨rfl, hA.trans (hb1.mono hz)⟩
/-- Whether a claim is ready. -/
def readyI (ts : List MsgT) (c : ClaimT) : Bool := okCl c && readyL ts c
def doneI (ts : List MsgT) (c : ClaimT) : Bool := readyI ts c && decide (3 ≤ countOf ts 4 c (-1))
theorem readyI_eq (ts : List MsgT) (c : ClaimT) : readyI ts c = (okCl c && (ts.any (offersI c) && decide (2 ≤ countOf ts 3 c (leadI c.2.1)))) := by
  unfold readyI readyL offered
  cases h : okCl c
  · rfl
  · have h1 : ts.any (offersI c) = ts.any (offers c) := by congr 1; funext m; exact offersI_eq h m
    have h2 : leadI c.2.1 = leadOf c.2.1 := by
      unfold okCl at h
      simp only [Bool.and_eq_true] at h
      unfold leadI leadOf; rw [h.2.1]; rfl
    rw [h1, h2]
theorem ClaimReady_c (A : Option Addr) (n c0 lo hi : Nat) (ts : List MsgT) (c : ClaimT) (w : World) (hs : RdN 11 msgR w lo hi A n c0 ts) (hhi : hi ≤ w.heap.size) :
    Calls Try.prog 52 #[.slice A n c0, .agg #[.int .i64 c.1, .int .i64 c.2.1, .int .i64 c.2.2.1, .int .i64 c.2.2.2.1, .int .i64 c.2.2.2.2.1, .int .i64 c.2.2.2.2.2.1, .int .i64 c.2.2.2.2.2.2]] w fun e w' => e = .returned (.bool (readyI ts c)) ∧ Below w.heap.size w w' := by
  have hre := hide (readyI_eq ts c)
  have hA := (Below.refl w.heap.size w).alloc (Nat.le_refl _) (.cells #[.int .i64 c.1, .int .i64 c.2.1, .int .i64 c.2.2.1, .int .i64 c.2.2.2.1, .int .i64 c.2.2.2.2.1, .int .i64 c.2.2.2.2.2.1, .int .i64 c.2.2.2.2.2.2] 34)
  have hz := hA.size
  have q0 := BxC.made w c
  have hl := q0.lt
  have hs1 := hs.below msg_kept hA hhi
  obtain ⟨y0, y1, y2, y3, y4, y5, y6, yf0, yf1, yf2, yf3, yf4, yf5, yf6⟩ := q0.cells
  go_enter Try.func52, Try.ntmps52
  have hp := hide (fun W (h : Below (w.alloc (.cells #[.int .i64 c.1, .int .i64 c.2.1, .int .i64 c.2.2.1, .int .i64 c.2.2.2.1, .int .i64 c.2.2.2.2.1, .int .i64 c.2.2.2.2.2.1, .int .i64 c.2.2.2.2.2.2] 34)).heap.size (w.alloc (.cells #[.int .i64 c.1, .int .i64 c.2.1, .int .i64 c.2.2.1, .int .i64 c.2.2.2.1, .int .i64 c.2.2.2.2.1, .int .i64 c.2.2.2.2.2.1, .int .i64 c.2.2.2.2.2.2] 34)) W) => proposed_c A n c0 lo hi ts c W (hs1.below msg_kept h (Nat.le_trans hhi hz)) (Nat.le_trans hhi (Nat.le_trans hz h.size)))
  have hk := hide (fun W (h : Below (w.alloc (.cells #[.int .i64 c.1, .int .i64 c.2.1, .int .i64 c.2.2.1, .int .i64 c.2.2.2.1, .int .i64 c.2.2.2.2.1, .int .i64 c.2.2.2.2.2.1, .int .i64 c.2.2.2.2.2.2] 34)).heap.size (w.alloc (.cells #[.int .i64 c.1, .int .i64 c.2.1, .int .i64 c.2.2.1, .int .i64 c.2.2.2.1, .int .i64 c.2.2.2.2.1, .int .i64 c.2.2.2.2.2.1, .int .i64 c.2.2.2.2.2.2] 34)) W) => backed_c A n c0 lo hi ts c W (hs1.below msg_kept h (Nat.le_trans hhi hz)) (Nat.le_trans hhi (Nat.le_trans hz h.size)))
  go_wp2_with fail
  generalize w.alloc (.cells #[.int .i64 c.1, .int .i64 c.2.1, .int .i64 c.2.2.1, .int .i64 c.2.2.2.1, .int .i64 c.2.2.2.2.1, .int .i64 c.2.2.2.2.2.1, .int .i64 c.2.2.2.2.2.2] 34) = w0 at *
  refine (claimOk_c c w0).mono ?_
  rintro e w1 ⟨rfl, hb1⟩
  have hB1 := hA.trans (hb1.mono hz)
  have y0 := keepc hb1 y0
  have y1 := keepc hb1 y1
  have y2 := keepc hb1 y2
  have y3 := keepc hb1 y3
  have y4 := keepc hb1 y4
  have y5 := keepc hb1 y5
  have y6 := keepc hb1 y6
  cases e1 : okCl c
  · have e1h := hide e1
    go_wp2
    go_ret
    exact ⟨by rw [hre.out, e1h.out]; rfl, hB1⟩
  · have e1h := hide e1
    go_wp2_with fail
    refine (hp.out w1 hb1).mono ?_
    rintro e w2 ⟨rfl, hb2⟩
    have hB2 := hB1.trans (hb2.mono hB1.size)
    have y0 := keepc hb2 y0
    have y1 := keepc hb2 y1
    have y2 := keepc hb2 y2
    have y3 := keepc hb2 y3
    have y4 := keepc hb2 y4
    have y5 := keepc hb2 y5
    have y6 := keepc hb2 y6
    cases e2 : ts.any (offersI c)
    · have e2h := hide e2
      go_wp2
      go_ret
      exact ⟨by rw [hre.out, e1h.out, e2h.out]; rfl, hB2⟩
    · have e2h := hide e2
      go_wp2_with fail
      refine (hk.out w2 (hb1.trans (hb2.mono hb1.size))).mono ?_
      rintro e w3 ⟨rfl, hb3⟩
      go_wp2
      go_ret
      exact ⟨by rw [hre.out, e1h.out, e2h.out]; rfl, hB2.trans (hb3.mono hB2.size)⟩
theorem ClaimDone_c (A : Option Addr) (n c0 lo hi : Nat) (ts : List MsgT) (c : ClaimT) (w : World) (hs : RdN 11 msgR w lo hi A n c0 ts) (hhi : hi ≤ w.heap.size) :
    Calls Try.prog 68 #[.slice A n c0, .agg #[.int .i64 c.1, .int .i64 c.2.1, .int .i64 c.2.2.1, .int .i64 c.2.2.2.1, .int .i64 c.2.2.2.2.1, .int .i64 c.2.2.2.2.2.1, .int .i64 c.2.2.2.2.2.2]] w fun e w' => e = .returned (.bool (doneI ts c)) ∧ Below w.heap.size w w' := by
  have hre : Hid (doneI ts c = (readyI ts c && decide (3 ≤ countOf ts 4 c (-1)))) := hide rfl
  have hA := (Below.refl w.heap.size w).alloc (Nat.le_refl _) (.cells #[.int .i64 c.1, .int .i64 c.2.1, .int .i64 c.2.2.1, .int .i64 c.2.2.2.1, .int .i64 c.2.2.2.2.1, .int .i64 c.2.2.2.2.2.1, .int .i64 c.2.2.2.2.2.2] 34)
  have hz := hA.size
  have q0 := BxC.made w c
  have hl := q0.lt
  have hs1 := hs.below msg_kept hA hhi
  obtain ⟨y0, y1, y2, y3, y4, y5, y6, yf0, yf1, yf2, yf3, yf4, yf5, yf6⟩ := q0.cells
  go_enter Try.func68, Try.ntmps68
  have hp := hide (fun W (h : Below (w.alloc (.cells #[.int .i64 c.1, .int .i64 c.2.1, .int .i64 c.2.2.1, .int .i64 c.2.2.2.1, .int .i64 c.2.2.2.2.1, .int .i64 c.2.2.2.2.2.1, .int .i64 c.2.2.2.2.2.2] 34)).heap.size (w.alloc (.cells #[.int .i64 c.1, .int .i64 c.2.1, .int .i64 c.2.2.1, .int .i64 c.2.2.2.1, .int .i64 c.2.2.2.2.1, .int .i64 c.2.2.2.2.2.1, .int .i64 c.2.2.2.2.2.2] 34)) W) => sealed_c A n c0 lo hi ts c W (hs1.below msg_kept h (Nat.le_trans hhi hz)) (Nat.le_trans hhi (Nat.le_trans hz h.size)))
  go_wp2_with fail
  generalize w.alloc (.cells #[.int .i64 c.1, .int .i64 c.2.1, .int .i64 c.2.2.1, .int .i64 c.2.2.2.1, .int .i64 c.2.2.2.2.1, .int .i64 c.2.2.2.2.2.1, .int .i64 c.2.2.2.2.2.2] 34) = w0 at *
  refine (ClaimReady_c A n c0 lo hi ts c w0 hs1 (Nat.le_trans hhi hz)).mono ?_
  rintro e w1 ⟨rfl, hb1⟩
  have hB1 := hA.trans (hb1.mono hz)
  have y0 := keepc hb1 y0
  have y1 := keepc hb1 y1
  have y2 := keepc hb1 y2
  have y3 := keepc hb1 y3
  have y4 := keepc hb1 y4
  have y5 := keepc hb1 y5
  have y6 := keepc hb1 y6
  cases e1 : readyI ts c
  · have e1h := hide e1
    go_wp2
    go_ret
    exact ⟨by rw [hre.out, e1h.out]; rfl, hB1⟩
  · have e1h := hide e1
    go_wp2_with fail
    refine (hp.out w1 hb1).mono ?_
    rintro e w2 ⟨rfl, hb2⟩
    go_wp2
    go_ret
    exact ⟨by rw [hre.out, e1h.out]; rfl, hB1.trans (hb2.mono hB1.size)⟩
end Go.Proofs.Ytphlnihmfgmecaa
