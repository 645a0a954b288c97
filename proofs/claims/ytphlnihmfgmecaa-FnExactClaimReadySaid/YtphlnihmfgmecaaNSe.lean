/-
  'FnExactClaimReady' returns true, for every argument: both packages answer alike.
  Conditions: none.
-/
import Derived.Test.YtphlnihmfgmecaaNSd
import Derived.Test.YtphlnihmfgmecaaNMa
import Derived.Test.YtphlnihmfgmecaaNNa
namespace Go.Proofs.Ytphlnihmfgmecaa
open Go.RowKit Rg
set_option linter.unusedVariables false
set_option linter.unusedSimpArgs false

set_option maxRecDepth 100000 in
set_option maxHeartbeats 3000000 in
theorem lawExactClaimReady (A : Option Addr) (n c : Nat) (ts : List MsgT) (k : ClaimT) (w : World) (h0 : RdN 11 msgR w 0 w.heap.size A n c ts) :
    Calls Try.prog 9 #[.slice A n c, .agg #[.int .i64 k.1, .int .i64 k.2.1, .int .i64 k.2.2.1, .int .i64 k.2.2.2.1, .int .i64 k.2.2.2.2.1, .int .i64 k.2.2.2.2.2.1, .int .i64 k.2.2.2.2.2.2]] w fun e w' => e = .returned (.bool true) ∧ Below w.heap.size w w' := by
  have hB : Below w.heap.size w (w.alloc (.cells #[.int .i64 k.1, .int .i64 k.2.1, .int .i64 k.2.2.1, .int .i64 k.2.2.2.1, .int .i64 k.2.2.2.2.1, .int .i64 k.2.2.2.2.2.1, .int .i64 k.2.2.2.2.2.2] 72)) := (Below.refl _ _).alloc (Nat.le_refl _) _
  have y0 : (w.alloc (.cells #[.int .i64 k.1, .int .i64 k.2.1, .int .i64 k.2.2.1, .int .i64 k.2.2.2.1, .int .i64 k.2.2.2.2.1, .int .i64 k.2.2.2.2.2.1, .int .i64 k.2.2.2.2.2.2] 72)).cell? ⟨w.heap.size, 0, none⟩ = some (.int .i64 k.1) := by simp
  have y1 : (w.alloc (.cells #[.int .i64 k.1, .int .i64 k.2.1, .int .i64 k.2.2.1, .int .i64 k.2.2.2.1, .int .i64 k.2.2.2.2.1, .int .i64 k.2.2.2.2.2.1, .int .i64 k.2.2.2.2.2.2] 72)).cell? ⟨w.heap.size, 1, none⟩ = some (.int .i64 k.2.1) := by simp
  have y2 : (w.alloc (.cells #[.int .i64 k.1, .int .i64 k.2.1, .int .i64 k.2.2.1, .int .i64 k.2.2.2.1, .int .i64 k.2.2.2.2.1, .int .i64 k.2.2.2.2.2.1, .int .i64 k.2.2.2.2.2.2] 72)).cell? ⟨w.heap.size, 2, none⟩ = some (.int .i64 k.2.2.1) := by simp
  have y3 : (w.alloc (.cells #[.int .i64 k.1, .int .i64 k.2.1, .int .i64 k.2.2.1, .int .i64 k.2.2.2.1, .int .i64 k.2.2.2.2.1, .int .i64 k.2.2.2.2.2.1, .int .i64 k.2.2.2.2.2.2] 72)).cell? ⟨w.heap.size, 3, none⟩ = some (.int .i64 k.2.2.2.1) := by simp
  have y4 : (w.alloc (.cells #[.int .i64 k.1, .int .i64 k.2.1, .int .i64 k.2.2.1, .int .i64 k.2.2.2.1, .int .i64 k.2.2.2.2.1, .int .i64 k.2.2.2.2.2.1, .int .i64 k.2.2.2.2.2.2] 72)).cell? ⟨w.heap.size, 4, none⟩ = some (.int .i64 k.2.2.2.2.1) := by simp
  have y5 : (w.alloc (.cells #[.int .i64 k.1, .int .i64 k.2.1, .int .i64 k.2.2.1, .int .i64 k.2.2.2.1, .int .i64 k.2.2.2.2.1, .int .i64 k.2.2.2.2.2.1, .int .i64 k.2.2.2.2.2.2] 72)).cell? ⟨w.heap.size, 5, none⟩ = some (.int .i64 k.2.2.2.2.2.1) := by simp
  have y6 : (w.alloc (.cells #[.int .i64 k.1, .int .i64 k.2.1, .int .i64 k.2.2.1, .int .i64 k.2.2.2.1, .int .i64 k.2.2.2.2.1, .int .i64 k.2.2.2.2.2.1, .int .i64 k.2.2.2.2.2.2] 72)).cell? ⟨w.heap.size, 6, none⟩ = some (.int .i64 k.2.2.2.2.2.2) := by simp
  have hl : w.heap.size < (w.alloc (.cells #[.int .i64 k.1, .int .i64 k.2.1, .int .i64 k.2.2.1, .int .i64 k.2.2.2.1, .int .i64 k.2.2.2.2.1, .int .i64 k.2.2.2.2.2.1, .int .i64 k.2.2.2.2.2.2] 72)).heap.size := by simp
  have ks := hide (fun W (h : Below w.heap.size w W) => szMsgS_c A n c 0 w.heap.size 1048576 W (h0.below msg_kept h (Nat.le_refl _)) h.size (by omega))
  by_cases hz : szMsgs ts ≤ 1048576
  · have y := hide (szO_yes hz)
    have kt := hide (fun W (h : Below w.heap.size w W) => toMsgS_c (h0.below msg_kept h (Nat.le_refl _)) hz h.size)
    have kc := hide (fun W => toClaim_c k 0 0 W (Nat.zero_le _))
    have c1 : (readyI ts k != readyI ts k) = false := by simp
    have d1 : decide (((1048576 - szMsgs ts : Nat) : Int) < 0) = false := by simp
    go_enter Try.func9, Try.ntmps9
    go_wp2_with fail
    generalize w.alloc (.cells #[.int .i64 k.1, .int .i64 k.2.1, .int .i64 k.2.2.1, .int .i64 k.2.2.2.1, .int .i64 k.2.2.2.2.1, .int .i64 k.2.2.2.2.2.1, .int .i64 k.2.2.2.2.2.2] 72) = v0 at *
    refine (ks.out _ hB).mono ?_
    rintro e u0 ⟨rfl, hb0⟩
    rw [y.out]
    have y0 := keepc hb0 y0
    have y1 := keepc hb0 y1
    have y2 := keepc hb0 y2
    have y3 := keepc hb0 y3
    have y4 := keepc hb0 y4
    have y5 := keepc hb0 y5
    have y6 := keepc hb0 y6
    have hB := hB.trans (hb0.mono hB.size)
    have hl := Nat.lt_of_lt_of_le hl hb0.size
    have hBd := hB.drew
    go_wp2_with fail
    refine wp_region_T (Since _) [] [] [16] [0, 2, 1, 3, 4, 5] (by kernel_rfl) (by kernel_rfl) (by kernel_rfl) (Since.drew _) ?_; simp only [pickL, List.getElem?_cons_succ, List.getElem?_cons_zero]
    go_wp2_with (first
      | (with_reducible refine Since.and_ ?_ ?_; (focus (repeat (first | (with_reducible exact Since.refl _) | assumption | (with_reducible refine Since.drewR ?_) | (with_reducible refine Since.alloc ?_ _) | ((with_reducible apply Since.below); rotate_left; (focus assumption))))); intro hS) | ((with_reducible refine wpT_q0 ?_ ?_ ?_ ?_); (focus rfl); (focus rfl); (focus rfl); intro K hK) | ((with_reducible apply wpT_l); (focus rfl); (focus rfl); (focus rfl); (focus rfl); (focus (first | exact Since.drew _ | assumption)); (focus (simp <;> omega)); (focus go_simp); intro K hK) | ((with_reducible refine wpT_xs0 ?_ ?_ ?_); (focus rfl); (focus rfl); intro K hK) | ((with_reducible refine wpT_noL ?_ ?_); (focus (first | exact wanted_no _ _ _ rfl rfl rfl | exact wanted_un _ _ _ rfl rfl rfl)); simp only [setO, List.set_cons_succ, List.set_cons_zero]) | ((with_reducible refine wpT_q1 ?_ ?_ ?_ ?_); (focus exact wanted_yes _ _ _ rfl rfl rfl); (focus rfl); (focus rfl); intro K hK) | ((with_reducible refine wpT_xs1 ?_ ?_ ?_); (focus exact wanted_yes _ _ _ rfl rfl rfl); (focus rfl); intro K hK) | ((with_reducible refine wpT_nil ?_); try dsimp only)
      | (go_at_call 50; refine (kt.out _ hBd).mono ?_; rintro e u1 ⟨A1, n1, c1, rfl, f1, hb1⟩; have hB1 := hBd.trans (hb1.mono hBd.size); replace hb1 := hb1)
      | (go_at_call 51; refine (kc.out _).mono ?_; rintro e u2 ⟨rfl, hb2⟩; have hB2 := hB1.trans (hb2.mono hB1.size); replace hb2 := hb2)
      | (go_at_call 49; refine (specClaimReady_c A1 n1 c1 _ _ ts k u2 ((FrM.rd f1).below msg_kept hb2 (Nat.le_refl _)) hb2.size).mono ?_; rintro e u3 ⟨rfl, hb3⟩; have hB3 := hB2.trans (hb3.mono hB2.size); replace hb3 := hb3)
      | fail)
    have hb13 := (hb1.trans (hb2.mono hb1.size)).trans (hb3.mono (Nat.le_trans hb1.size hb2.size))
    have hD := (Below.refl u0.heap.size u0).drew
    have y0 := keepc hD y0
    have y1 := keepc hD y1
    have y2 := keepc hD y2
    have y3 := keepc hD y3
    have y4 := keepc hD y4
    have y5 := keepc hD y5
    have y6 := keepc hD y6
    have y0 := keepc hb13 y0
    have y1 := keepc hb13 y1
    have y2 := keepc hb13 y2
    have y3 := keepc hb13 y3
    have y4 := keepc hb13 y4
    have y5 := keepc hb13 y5
    have y6 := keepc hb13 y6
    have hl := Nat.lt_of_lt_of_le hl (Nat.le_trans hD.size hb13.size)
    clear hb13 hb1 hb2 hb3 hD f1 hBd
    refine (kt.out _ hB3).mono ?_
    rintro e u4 ⟨A4, n4, c4, rfl, f4, hb4⟩
    have y0 := keepc hb4 y0
    have y1 := keepc hb4 y1
    have y2 := keepc hb4 y2
    have y3 := keepc hb4 y3
    have y4 := keepc hb4 y4
    have y5 := keepc hb4 y5
    have y6 := keepc hb4 y6
    have hB4 := hB3.trans (hb4.mono hB3.size)
    have hl := Nat.lt_of_lt_of_le hl hb4.size
    go_wp2_with fail
    refine (kc.out _).mono ?_
    rintro e u5 ⟨rfl, hb5⟩
    have y0 := keepc hb5 y0
    have y1 := keepc hb5 y1
    have y2 := keepc hb5 y2
    have y3 := keepc hb5 y3
    have y4 := keepc hb5 y4
    have y5 := keepc hb5 y5
    have y6 := keepc hb5 y6
    have hB5 := hB4.trans (hb5.mono hB4.size)
    have g5 := (FrM.rd f4).below msg_kept hb5 (Nat.le_refl _)
    have hz5 := hb5.size
    clear f4
    go_wp2_with fail
    refine (ClaimReady_c A4 n4 c4 _ _ ts k u5 g5 hb5.size).mono ?_
    rintro e u6 ⟨rfl, hb6⟩
    have hB6 := hB5.trans (hb6.mono hB5.size)
    have hz6 := hb6.size
    have g6 := g5.below msg_kept hb6 (by omega)
    clear g5 hb4 hb5 hb6 hb0
    go_wp2_with fail
    refine (kt.out _ hB6).mono ?_
    rintro e u7 ⟨A7, n7, c7, rfl, f7, hb7⟩
    have hB7 := hB6.trans (hb7.mono hB6.size)
    have hz7 := hb7.size
    have g7 := g6.below msg_kept hb7 (by omega)
    clear g6
    go_wp2_with fail
    refine (eqMsgS_same g7 (FrM.rd f7) (by omega) (Nat.le_refl _)).mono ?_
    rintro e u8 ⟨rfl, hb8⟩
    have hB8 := hB7.trans (hb8.mono hB7.size)
    clear g7 f7
    go_wp2
    go_ret
    exact ⟨rfl, hB8⟩
  · have y := hide (szO_no (show 1048576 < szMsgs ts by omega))
    go_enter Try.func9, Try.ntmps9
    go_wp2_with fail
    generalize w.alloc (.cells #[.int .i64 k.1, .int .i64 k.2.1, .int .i64 k.2.2.1, .int .i64 k.2.2.2.1, .int .i64 k.2.2.2.2.1, .int .i64 k.2.2.2.2.2.1, .int .i64 k.2.2.2.2.2.2] 72) = v0 at *
    refine (ks.out _ hB).mono ?_
    rintro e u0 ⟨rfl, hb0⟩
    rw [y.out]
    have hB := hB.trans (hb0.mono hB.size)
    go_wp2
    go_ret
    exact ⟨rfl, hB⟩
end Go.Proofs.Ytphlnihmfgmecaa
