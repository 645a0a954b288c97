/-
  'FnExactWorldAgree' returns true, for every argument: both packages answer alike.
  Conditions: none.
-/
import Derived.Test.YtphlnihmfgmecaaNSh
import Derived.Test.YtphlnihmfgmecaaNMb
import Derived.Test.YtphlnihmfgmecaaNNb
namespace Go.Proofs.Ytphlnihmfgmecaa
open Go.RowKit Rg
set_option linter.unusedVariables false
set_option linter.unusedSimpArgs false

set_option maxRecDepth 100000 in
set_option maxHeartbeats 4000000 in
theorem lawExactWorldAgree (t : WorldT) (A B : Option Addr) (n c p d : Nat) (w : World) (h0 : RdN 7 repR w 0 w.heap.size A n c t.2.1) (h1 : RdN 11 msgR w 0 w.heap.size B p d t.2.2) :
    Calls Try.prog 14 #[.agg #[.int .i64 t.1, .slice A n c, .slice B p d]] w fun e w' => e = .returned (.bool true) ∧ Below w.heap.size w w' := by
  have hB : Below w.heap.size w (w.alloc (.cells #[.int .i64 t.1, .slice A n c, .slice B p d] 88)) := (Below.refl _ _).alloc (Nat.le_refl _) _
  have x0 : (w.alloc (.cells #[.int .i64 t.1, .slice A n c, .slice B p d] 88)).cell? ⟨w.heap.size, 0, none⟩ = some (.int .i64 t.1) := by simp
  have x1 : (w.alloc (.cells #[.int .i64 t.1, .slice A n c, .slice B p d] 88)).cell? ⟨w.heap.size, 1, none⟩ = some (.slice A n c) := by simp
  have x2 : (w.alloc (.cells #[.int .i64 t.1, .slice A n c, .slice B p d] 88)).cell? ⟨w.heap.size, 2, none⟩ = some (.slice B p d) := by simp
  have hl : w.heap.size < (w.alloc (.cells #[.int .i64 t.1, .slice A n c, .slice B p d] 88)).heap.size := by simp
  have ks := hide (fun W (h : Below w.heap.size w W) => szWorld_c t A B n c p d 0 w.heap.size 1048576 W (h0.below rep_kept h (Nat.le_refl _)) (h1.below msg_kept h (Nat.le_refl _)) h.size (by omega))
  by_cases hz : szWorld t ≤ 1048576
  · have y := hide (szO_yes hz)
    have hzp : Hid (szWorld t = szReps t.2.1 + szMsgs t.2.2) := hide rfl
    have kt := hide (fun W (h : Below w.heap.size w W) => toWorld_c t A B n c p d 0 w.heap.size W (h0.below rep_kept h (Nat.le_refl _)) (h1.below msg_kept h (Nat.le_refl _)) h.size (by have := hzp.out; omega) (by have := hzp.out; omega))
    have c1 : (agreeW t != agreeW t) = false := by simp
    have d1 : decide (((1048576 - szWorld t : Nat) : Int) < 0) = false := by simp
    go_enter Try.func14, Try.ntmps14
    go_wp2_with fail
    generalize w.alloc (.cells #[.int .i64 t.1, .slice A n c, .slice B p d] 88) = v0 at *
    refine (ks.out _ hB).mono ?_
    rintro e u0 ⟨rfl, hb0⟩
    rw [y.out]
    have x0 := keepc hb0 x0
    have x1 := keepc hb0 x1
    have x2 := keepc hb0 x2
    have hB := hB.trans (hb0.mono hB.size)
    have hl := Nat.lt_of_lt_of_le hl hb0.size
    go_wp2_with fail
    refine (kt.out _ hB).mono ?_
    rintro e u1 ⟨A1, B1, n1, c1, p1, d1, rfl, f1, hb1⟩
    have x0 := keepc hb1 x0
    have x1 := keepc hb1 x1
    have x2 := keepc hb1 x2
    have hB := hB.trans (hb1.mono hB.size)
    have hl := Nat.lt_of_lt_of_le hl hb1.size
    obtain ⟨g0, g1⟩ := worldR_inv (worldF_R f1)
    clear f1
    go_wp2_with fail
    refine (specWorldAgree_c t A1 B1 n1 c1 p1 d1 u0.heap.size u1.heap.size u1 g0 g1 (Nat.le_refl _)).mono ?_
    rintro e u2 ⟨rfl, hb2⟩
    have x0 := keepc hb2 x0
    have x1 := keepc hb2 x1
    have x2 := keepc hb2 x2
    have hB := hB.trans (hb2.mono hB.size)
    have hl := Nat.lt_of_lt_of_le hl hb2.size
    clear g0 g1
    go_wp2_with fail
    refine (kt.out _ hB).mono ?_
    rintro e u3 ⟨A2, B2, n2, c2, p2, d2, rfl, f3, hb3⟩
    have x0 := keepc hb3 x0
    have x1 := keepc hb3 x1
    have x2 := keepc hb3 x2
    have hB := hB.trans (hb3.mono hB.size)
    have hl := Nat.lt_of_lt_of_le hl hb3.size
    obtain ⟨q0, q1⟩ := worldR_inv (worldF_R f3)
    clear f3
    have hA := (Below.refl u3.heap.size u3).alloc (Nat.le_refl _) (.cells #[.int .i64 t.1, .slice A2 n2 c2, .slice B2 p2 d2] 46)
    have y0 : (u3.alloc (.cells #[.int .i64 t.1, .slice A2 n2 c2, .slice B2 p2 d2] 46)).cell? ⟨u3.heap.size, 0, none⟩ = some (.int .i64 t.1) := by simp
    have y1 : (u3.alloc (.cells #[.int .i64 t.1, .slice A2 n2 c2, .slice B2 p2 d2] 46)).cell? ⟨u3.heap.size, 1, none⟩ = some (.slice A2 n2 c2) := by simp
    have y2 : (u3.alloc (.cells #[.int .i64 t.1, .slice A2 n2 c2, .slice B2 p2 d2] 46)).cell? ⟨u3.heap.size, 2, none⟩ = some (.slice B2 p2 d2) := by simp
    have x0 := keepc hA x0
    have x1 := keepc hA x1
    have x2 := keepc hA x2
    have hz3 := hA.size
    have q0 := q0.below rep_kept hA (by omega)
    have q1 := q1.below msg_kept hA (by omega)
    have hB := hB.trans (hA.mono hB.size)
    have hl := Nat.lt_of_lt_of_le hl hz3
    have hl3 : u3.heap.size < (u3.alloc (.cells #[.int .i64 t.1, .slice A2 n2 c2, .slice B2 p2 d2] 46)).heap.size := by simp
    go_wp2_with fail
    generalize u3.alloc (.cells #[.int .i64 t.1, .slice A2 n2 c2, .slice B2 p2 d2] 46) = v3 at *
    refine (WorldAgree_c t A2 B2 n2 c2 p2 d2 u2.heap.size u3.heap.size v3 q0 q1 hz3).mono ?_
    rintro e u4 ⟨rfl, hb4⟩
    have x0 := keepc hb4 x0
    have x1 := keepc hb4 x1
    have x2 := keepc hb4 x2
    have y0 := keepc hb4 y0
    have y1 := keepc hb4 y1
    have y2 := keepc hb4 y2
    have hz4 := hb4.size
    have q0 := q0.below rep_kept hb4 (by omega)
    have q1 := q1.below msg_kept hb4 (by omega)
    have hB := hB.trans (hb4.mono hB.size)
    have hl := Nat.lt_of_lt_of_le hl hz4
    have hl3 := Nat.lt_of_lt_of_le hl3 hz4
    go_wp2
    refine wp_region_T (Since _) [] [] [22] [0, 1, 2, 3, 4] (by kernel_rfl) (by kernel_rfl) (by kernel_rfl) (Since.drew _) ?_; simp only [pickL, List.getElem?_cons_succ, List.getElem?_cons_zero]
    have hD := (Below.refl u4.heap.size u4).drew
    have x0 := keepc hD x0
    have x1 := keepc hD x1
    have x2 := keepc hD x2
    have y0 := keepc hD y0
    have y1 := keepc hD y1
    have y2 := keepc hD y2
    have q0 := q0.below rep_kept hD (by omega)
    have q1 := q1.below msg_kept hD (by omega)
    have hB := hB.trans (hD.mono hB.size)
    have hS : Since u4 u4.drew := Since.drew _
    have hz5 := hD.size
    clear hD hb0 hb1 hb2 hb3 hb4 hA
    generalize u4.drew = u5 at *
    go_wp2_with (first
      | (with_reducible refine Since.and_ ?_ ?_; (focus (repeat (first | (with_reducible exact Since.refl _) | assumption | (with_reducible refine Since.drewR ?_) | (with_reducible refine Since.alloc ?_ _) | ((with_reducible apply Since.below); rotate_left; (focus assumption))))); intro hS) | ((with_reducible refine wpT_q0 ?_ ?_ ?_ ?_); (focus rfl); (focus rfl); (focus rfl); intro K hK) | ((with_reducible apply wpT_l); (focus rfl); (focus rfl); (focus rfl); (focus rfl); (focus (first | exact Since.drew _ | assumption)); (focus (simp <;> omega)); (focus go_simp); intro K hK) | ((with_reducible refine wpT_xs0 ?_ ?_ ?_); (focus rfl); (focus rfl); intro K hK) | ((with_reducible refine wpT_noL ?_ ?_); (focus (first | exact wanted_no _ _ _ rfl rfl rfl | exact wanted_un _ _ _ rfl rfl rfl)); simp only [setO, List.set_cons_succ, List.set_cons_zero]) | ((with_reducible refine wpT_q1 ?_ ?_ ?_ ?_); (focus exact wanted_yes _ _ _ rfl rfl rfl); (focus rfl); (focus rfl); intro K hK) | ((with_reducible refine wpT_xs1 ?_ ?_ ?_); (focus exact wanted_yes _ _ _ rfl rfl rfl); (focus rfl); intro K hK) | ((with_reducible refine wpT_nil ?_); try dsimp only)
      | (go_at_call 62; refine (kt.out _ hB).mono ?_; rintro e u6 ⟨A3, B3, n3, c3, p3, d3, rfl, f6, hb6⟩; have hB := hB.trans (hb6.mono hB.size); obtain ⟨p0_, p1_⟩ := worldR_inv (worldF_R f6); clear f6; have q0 := q0.below rep_kept hb6 (by omega); have q1 := q1.below msg_kept hb6 (by omega); have hz6 := hb6.size; have hb6 := hb6)
      | (go_at_call 63; refine (eqWorld_same t A2 B2 n2 c2 p2 d2 A3 B3 n3 c3 p3 d3 u2.heap.size u3.heap.size u5.heap.size u6.heap.size u6 q0 q1 p0_ p1_ (by omega) (Nat.le_refl _)).mono ?_; rintro e u7 ⟨rfl, hb7⟩; have hB := hB.trans (hb7.mono hB.size); have hb7 := hb7)
      | fail)
    go_ret
    exact ⟨rfl, hB⟩
  · have y := hide (szO_no (show 1048576 < szWorld t by omega))
    go_enter Try.func14, Try.ntmps14
    go_wp2_with fail
    generalize w.alloc (.cells #[.int .i64 t.1, .slice A n c, .slice B p d] 88) = v0 at *
    refine (ks.out _ hB).mono ?_
    rintro e u0 ⟨rfl, hb0⟩
    rw [y.out]
    have hB := hB.trans (hb0.mono hB.size)
    go_wp2
    go_ret
    exact ⟨rfl, hB⟩
end Go.Proofs.Ytphlnihmfgmecaa
