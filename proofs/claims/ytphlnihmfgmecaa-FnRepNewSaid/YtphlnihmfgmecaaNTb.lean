/-
  'FnRepNew' returns true, for every code: a new keeper is ok, and did nothing.
  Conditions: none.
-/
import Derived.Test.YtphlnihmfgmecaaNTa
import Derived.Test.YtphlnihmfgmecaaNRL
namespace Go.Proofs.Ytphlnihmfgmecaa
open Go.RowKit Rg
set_option linter.unusedVariables false
set_option linter.unusedSimpArgs false

set_option maxRecDepth 100000 in
set_option maxHeartbeats 2000000 in
theorem lawRepNewD (A : Option Addr) (n c : Nat) (bs : List Int) (w : World) (hn : n = bs.length) (hc : n ≤ c) (hcm : c ≤ maxLen) (hs : Sl encU 1 w 0 w.heap.size A bs) (hb : ∀ b ∈ bs, 0 ≤ b ∧ b < 256) :
    Calls Try.prog 4 #[.slice A n c] w fun e w' => e = .returned (.bool true) ∧ Below w.heap.size w w' := by
  have hn' := hide hn
  have hb' := hide hb
  clear hn hb
  by_cases hbig : 1048576 < n
  · have d1 : decide (1048576 < (n : Int)) = true := by simp; omega
    go_enter Try.func4, Try.ntmps4
    go_wp2
    go_ret
    exact ⟨rfl, Below.refl _ _⟩
  have d1 : decide (1048576 < (n : Int)) = false := by simp; omega
  go_enter Try.func4, Try.ntmps4
  go_wp2_with fail
  refine (DrawRepNew_c A n c bs w hn'.out hc hcm hs hb'.out).mono ?_
  rintro e w1 ⟨me, rfl, hme, hB1⟩
  cases hin : inB me 0 3
  · go_wp2_with fail
    refine (RepNew_no me w1 hin).mono ?_
    rintro e w2 ⟨rfl, hb2⟩
    have hB2 := hB1.trans (hb2.mono hB1.size)
    have hA := (Below.refl w2.heap.size w2).alloc (Nat.le_refl _) (.cells #[.int .i64 0, .int .i64 0, .bool false, .int .i64 0, .slice none 0 0, .slice none 0 0, .slice none 0 0] 39)
    have hB3 := hB2.trans (hA.mono hB2.size)
    have hl : w2.heap.size < (w2.alloc (.cells #[.int .i64 0, .int .i64 0, .bool false, .int .i64 0, .slice none 0 0, .slice none 0 0, .slice none 0 0] 39)).heap.size := by simp
    have y0 : (w2.alloc (.cells #[.int .i64 0, .int .i64 0, .bool false, .int .i64 0, .slice none 0 0, .slice none 0 0, .slice none 0 0] 39)).cell? ⟨w2.heap.size, 0, none⟩ = some (.int .i64 0) := by simp
    have y1 : (w2.alloc (.cells #[.int .i64 0, .int .i64 0, .bool false, .int .i64 0, .slice none 0 0, .slice none 0 0, .slice none 0 0] 39)).cell? ⟨w2.heap.size, 1, none⟩ = some (.int .i64 0) := by simp
    have y2 : (w2.alloc (.cells #[.int .i64 0, .int .i64 0, .bool false, .int .i64 0, .slice none 0 0, .slice none 0 0, .slice none 0 0] 39)).cell? ⟨w2.heap.size, 2, none⟩ = some (.bool false) := by simp
    have y3 : (w2.alloc (.cells #[.int .i64 0, .int .i64 0, .bool false, .int .i64 0, .slice none 0 0, .slice none 0 0, .slice none 0 0] 39)).cell? ⟨w2.heap.size, 3, none⟩ = some (.int .i64 0) := by simp
    have y4 : (w2.alloc (.cells #[.int .i64 0, .int .i64 0, .bool false, .int .i64 0, .slice none 0 0, .slice none 0 0, .slice none 0 0] 39)).cell? ⟨w2.heap.size, 4, none⟩ = some (.slice none 0 0) := by simp
    have y5 : (w2.alloc (.cells #[.int .i64 0, .int .i64 0, .bool false, .int .i64 0, .slice none 0 0, .slice none 0 0, .slice none 0 0] 39)).cell? ⟨w2.heap.size, 5, none⟩ = some (.slice none 0 0) := by simp
    have y6 : (w2.alloc (.cells #[.int .i64 0, .int .i64 0, .bool false, .int .i64 0, .slice none 0 0, .slice none 0 0, .slice none 0 0] 39)).cell? ⟨w2.heap.size, 6, none⟩ = some (.slice none 0 0) := by simp
    go_wp2_with fail
    generalize w2.alloc (.cells #[.int .i64 0, .int .i64 0, .bool false, .int .i64 0, .slice none 0 0, .slice none 0 0, .slice none 0 0] 39) = u3 at *
    refine wp_region_T (Since _) [] [] [12] [0, 1, 2, 3, 4, 5, 6, 7, 8, 9] (by kernel_rfl) (by kernel_rfl) (by kernel_rfl) (Since.drew _) ?_; simp only [pickL, List.getElem?_cons_succ, List.getElem?_cons_zero]
    have hS4 : Since u3 u3.drew := Since.drew _
    have hD4 := (Below.refl u3.heap.size u3).drew
    have y0 := keepc hD4 y0
    have y1 := keepc hD4 y1
    have y2 := keepc hD4 y2
    have y3 := keepc hD4 y3
    have y4 := keepc hD4 y4
    have y5 := keepc hD4 y5
    have y6 := keepc hD4 y6
    have hB4d := hB3.trans (hD4.mono hB3.size)
    have hlv := Nat.lt_of_lt_of_le hl (show u3.heap.size ≤ u3.drew.heap.size from (Below.refl u3.heap.size u3).drew.size)
    generalize u3.drew = v4 at *
    go_wp2_with (first
      | (with_reducible refine Since.and_ ?_ ?_; (focus (repeat (first | (with_reducible exact Since.refl _) | assumption | (with_reducible refine Since.drewR ?_) | (with_reducible refine Since.alloc ?_ _) | ((with_reducible apply Since.below); rotate_left; (focus assumption))))); intro hS) | ((with_reducible refine wpT_q0 ?_ ?_ ?_ ?_); (focus rfl); (focus rfl); (focus rfl); intro K hK) | ((with_reducible apply wpT_l); (focus rfl); (focus rfl); (focus rfl); (focus rfl); (focus (first | exact Since.drew _ | assumption)); (focus (simp <;> omega)); (focus go_simp); intro K hK) | ((with_reducible refine wpT_xs0 ?_ ?_ ?_); (focus rfl); (focus rfl); intro K hK) | ((with_reducible refine wpT_noL ?_ ?_); (focus (first | exact wanted_no _ _ _ rfl rfl rfl | exact wanted_un _ _ _ rfl rfl rfl)); simp only [setO, List.set_cons_succ, List.set_cons_zero]) | ((with_reducible refine wpT_q1 ?_ ?_ ?_ ?_); (focus exact wanted_yes _ _ _ rfl rfl rfl); (focus rfl); (focus rfl); intro K hK) | ((with_reducible refine wpT_xs1 ?_ ?_ ?_); (focus exact wanted_yes _ _ _ rfl rfl rfl); (focus rfl); intro K hK) | ((with_reducible refine wpT_nil ?_); try dsimp only)
      | (go_at_call 24; refine (specRepNew_no me v4 hin).mono ?_; rintro e p4 ⟨rfl, hp4⟩; have hB4e := hB4d.trans (hp4.mono hB4d.size); replace hp4 := hp4)
      | (go_at_call 23; refine (wpRep_new 0 0 false p4).mono ?_; rintro e u4 ⟨rfl, hq4⟩; have hB4 := hB4e.trans (hq4.mono hB4e.size); have hk4 := hp4.trans (hq4.mono hp4.size); have y0 := keepc hk4 y0; have y1 := keepc hk4 y1; have y2 := keepc hk4 y2; have y3 := keepc hk4 y3; have y4 := keepc hk4 y4; have y5 := keepc hk4 y5; have y6 := keepc hk4 y6; have hl := Nat.lt_of_lt_of_le hlv hk4.size; replace hq4 := hq4)
      | fail)
    refine wp_region_T (Since _) [] [] [22] [0, 1, 2, 3, 4] (by kernel_rfl) (by kernel_rfl) (by kernel_rfl) (Since.drew _) ?_; simp only [pickL, List.getElem?_cons_succ, List.getElem?_cons_zero]
    have hS5 : Since u4 u4.drew := Since.drew _
    have hD5 := (Below.refl u4.heap.size u4).drew
    have y0 := keepc hD5 y0
    have y1 := keepc hD5 y1
    have y2 := keepc hD5 y2
    have y3 := keepc hD5 y3
    have y4 := keepc hD5 y4
    have y5 := keepc hD5 y5
    have y6 := keepc hD5 y6
    have hB5d := hB4.trans (hD5.mono hB4.size)
    have hlv := Nat.lt_of_lt_of_le hl (show u4.heap.size ≤ u4.drew.heap.size from (Below.refl u4.heap.size u4).drew.size)
    generalize u4.drew = v5 at *
    go_wp2_with (first
      | (with_reducible refine Since.and_ ?_ ?_; (focus (repeat (first | (with_reducible exact Since.refl _) | assumption | (with_reducible refine Since.drewR ?_) | (with_reducible refine Since.alloc ?_ _) | ((with_reducible apply Since.below); rotate_left; (focus assumption))))); intro hS) | ((with_reducible refine wpT_q0 ?_ ?_ ?_ ?_); (focus rfl); (focus rfl); (focus rfl); intro K hK) | ((with_reducible apply wpT_l); (focus rfl); (focus rfl); (focus rfl); (focus rfl); (focus (first | exact Since.drew _ | assumption)); (focus (simp <;> omega)); (focus go_simp); intro K hK) | ((with_reducible refine wpT_xs0 ?_ ?_ ?_); (focus rfl); (focus rfl); intro K hK) | ((with_reducible refine wpT_noL ?_ ?_); (focus (first | exact wanted_no _ _ _ rfl rfl rfl | exact wanted_un _ _ _ rfl rfl rfl)); simp only [setO, List.set_cons_succ, List.set_cons_zero]) | ((with_reducible refine wpT_q1 ?_ ?_ ?_ ?_); (focus exact wanted_yes _ _ _ rfl rfl rfl); (focus rfl); (focus rfl); intro K hK) | ((with_reducible refine wpT_xs1 ?_ ?_ ?_); (focus exact wanted_yes _ _ _ rfl rfl rfl); (focus rfl); intro K hK) | ((with_reducible refine wpT_nil ?_); try dsimp only)
      | (go_at_call 24; refine (specRepNew_no me v5 hin).mono ?_; rintro e p5 ⟨rfl, hp5⟩; have hB5e := hB5d.trans (hp5.mono hB5d.size); replace hp5 := hp5)
      | (go_at_call 23; refine (wpRep_new 0 0 false p5).mono ?_; rintro e u5 ⟨rfl, hq5⟩; have hB5 := hB5e.trans (hq5.mono hB5e.size); have hk5 := hp5.trans (hq5.mono hp5.size); have y0 := keepc hk5 y0; have y1 := keepc hk5 y1; have y2 := keepc hk5 y2; have y3 := keepc hk5 y3; have y4 := keepc hk5 y4; have y5 := keepc hk5 y5; have y6 := keepc hk5 y6; have hl := Nat.lt_of_lt_of_le hlv hk5.size; replace hq5 := hq5)
      | fail)
    go_ret
    exact ⟨rfl, hB5⟩
  · have hok : Hid (okRep (repNew me) = true) := hide (by
      exact okRep_new hin)
    go_wp2_with fail
    refine (RepNew_yes me w1 hin).mono ?_
    rintro e w2 ⟨rfl, hb2⟩
    have hB2 := hB1.trans (hb2.mono hB1.size)
    have hA := (Below.refl w2.heap.size w2).alloc (Nat.le_refl _) (.cells #[.int .i64 me, .int .i64 0, .bool true, .int .i64 1, .slice none 0 0, .slice none 0 0, .slice none 0 0] 39)
    have hB3 := hB2.trans (hA.mono hB2.size)
    have hl : w2.heap.size < (w2.alloc (.cells #[.int .i64 me, .int .i64 0, .bool true, .int .i64 1, .slice none 0 0, .slice none 0 0, .slice none 0 0] 39)).heap.size := by simp
    have y0 : (w2.alloc (.cells #[.int .i64 me, .int .i64 0, .bool true, .int .i64 1, .slice none 0 0, .slice none 0 0, .slice none 0 0] 39)).cell? ⟨w2.heap.size, 0, none⟩ = some (.int .i64 me) := by simp
    have y1 : (w2.alloc (.cells #[.int .i64 me, .int .i64 0, .bool true, .int .i64 1, .slice none 0 0, .slice none 0 0, .slice none 0 0] 39)).cell? ⟨w2.heap.size, 1, none⟩ = some (.int .i64 0) := by simp
    have y2 : (w2.alloc (.cells #[.int .i64 me, .int .i64 0, .bool true, .int .i64 1, .slice none 0 0, .slice none 0 0, .slice none 0 0] 39)).cell? ⟨w2.heap.size, 2, none⟩ = some (.bool true) := by simp
    have y3 : (w2.alloc (.cells #[.int .i64 me, .int .i64 0, .bool true, .int .i64 1, .slice none 0 0, .slice none 0 0, .slice none 0 0] 39)).cell? ⟨w2.heap.size, 3, none⟩ = some (.int .i64 1) := by simp
    have y4 : (w2.alloc (.cells #[.int .i64 me, .int .i64 0, .bool true, .int .i64 1, .slice none 0 0, .slice none 0 0, .slice none 0 0] 39)).cell? ⟨w2.heap.size, 4, none⟩ = some (.slice none 0 0) := by simp
    have y5 : (w2.alloc (.cells #[.int .i64 me, .int .i64 0, .bool true, .int .i64 1, .slice none 0 0, .slice none 0 0, .slice none 0 0] 39)).cell? ⟨w2.heap.size, 5, none⟩ = some (.slice none 0 0) := by simp
    have y6 : (w2.alloc (.cells #[.int .i64 me, .int .i64 0, .bool true, .int .i64 1, .slice none 0 0, .slice none 0 0, .slice none 0 0] 39)).cell? ⟨w2.heap.size, 6, none⟩ = some (.slice none 0 0) := by simp
    go_wp2_with fail
    generalize w2.alloc (.cells #[.int .i64 me, .int .i64 0, .bool true, .int .i64 1, .slice none 0 0, .slice none 0 0, .slice none 0 0] 39) = u3 at *
    refine wp_region_T (Since _) [] [] [12] [0, 1, 2, 3, 4, 5, 6, 7, 8, 9] (by kernel_rfl) (by kernel_rfl) (by kernel_rfl) (Since.drew _) ?_; simp only [pickL, List.getElem?_cons_succ, List.getElem?_cons_zero]
    have hS4 : Since u3 u3.drew := Since.drew _
    have hD4 := (Below.refl u3.heap.size u3).drew
    have y0 := keepc hD4 y0
    have y1 := keepc hD4 y1
    have y2 := keepc hD4 y2
    have y3 := keepc hD4 y3
    have y4 := keepc hD4 y4
    have y5 := keepc hD4 y5
    have y6 := keepc hD4 y6
    have hB4d := hB3.trans (hD4.mono hB3.size)
    have hlv := Nat.lt_of_lt_of_le hl (show u3.heap.size ≤ u3.drew.heap.size from (Below.refl u3.heap.size u3).drew.size)
    generalize u3.drew = v4 at *
    go_wp2_with (first
      | (with_reducible refine Since.and_ ?_ ?_; (focus (repeat (first | (with_reducible exact Since.refl _) | assumption | (with_reducible refine Since.drewR ?_) | (with_reducible refine Since.alloc ?_ _) | ((with_reducible apply Since.below); rotate_left; (focus assumption))))); intro hS) | ((with_reducible refine wpT_q0 ?_ ?_ ?_ ?_); (focus rfl); (focus rfl); (focus rfl); intro K hK) | ((with_reducible apply wpT_l); (focus rfl); (focus rfl); (focus rfl); (focus rfl); (focus (first | exact Since.drew _ | assumption)); (focus (simp <;> omega)); (focus go_simp); intro K hK) | ((with_reducible refine wpT_xs0 ?_ ?_ ?_); (focus rfl); (focus rfl); intro K hK) | ((with_reducible refine wpT_noL ?_ ?_); (focus (first | exact wanted_no _ _ _ rfl rfl rfl | exact wanted_un _ _ _ rfl rfl rfl)); simp only [setO, List.set_cons_succ, List.set_cons_zero]) | ((with_reducible refine wpT_q1 ?_ ?_ ?_ ?_); (focus exact wanted_yes _ _ _ rfl rfl rfl); (focus rfl); (focus rfl); intro K hK) | ((with_reducible refine wpT_xs1 ?_ ?_ ?_); (focus exact wanted_yes _ _ _ rfl rfl rfl); (focus rfl); intro K hK) | ((with_reducible refine wpT_nil ?_); try dsimp only)
      | (go_at_call 24; refine (specRepNew_yes me v4 hin).mono ?_; rintro e p4 ⟨rfl, hp4⟩; have hB4e := hB4d.trans (hp4.mono hB4d.size); replace hp4 := hp4)
      | (go_at_call 23; refine (wpRep_new me 1 true p4).mono ?_; rintro e u4 ⟨rfl, hq4⟩; have hB4 := hB4e.trans (hq4.mono hB4e.size); have hk4 := hp4.trans (hq4.mono hp4.size); have y0 := keepc hk4 y0; have y1 := keepc hk4 y1; have y2 := keepc hk4 y2; have y3 := keepc hk4 y3; have y4 := keepc hk4 y4; have y5 := keepc hk4 y5; have y6 := keepc hk4 y6; have hl := Nat.lt_of_lt_of_le hlv hk4.size; replace hq4 := hq4)
      | fail)
    have hno := hide (RdN.nil_ 7 clR u4 0 0 none 0 (by simp [maxLen]))
    go_wp2_with fail
    refine (RepOk_c (repNew me) none none none 0 0 0 0 0 0 0 0 u4 (RdN.nil_ _ _ _ _ _ _ _ (by simp [maxLen])) (RdN.nil_ _ _ _ _ _ _ _ (by simp [maxLen])) (RdN.nil_ _ _ _ _ _ _ _ (by simp [maxLen])) (Nat.zero_le _)).mono ?_
    rintro e u6 ⟨rfl, hb6⟩
    rw [hok.out]
    have hB6 := hB4.trans (hb6.mono hB4.size)
    have y0 := keepc hb6 y0
    have y1 := keepc hb6 y1
    have y2 := keepc hb6 y2
    have y3 := keepc hb6 y3
    have y4 := keepc hb6 y4
    have y5 := keepc hb6 y5
    have y6 := keepc hb6 y6
    have e1 : (me == me) = true := by simp
    go_wp2_with fail
    refine (RepList_c (repNew me) none none none 0 0 0 0 0 0 0 0 u6 (RdN.nil_ _ _ _ _ _ _ _ (by simp [maxLen])) (RdN.nil_ _ _ _ _ _ _ _ (by simp [maxLen])) (RdN.nil_ _ _ _ _ _ _ _ (by simp [maxLen])) (Nat.zero_le _)).mono ?_
    rintro e u7 ⟨v7, rfl, ho7, hb7⟩
    rw [hok.out] at ho7
    obtain ⟨A7, c7, rfl, _, _, _⟩ := ho7.form
    have hB7 := hB6.trans (hb7.mono hB6.size)
    have hl7 : (if true = true then listFrom 1 (repNew me).2.2.2.2.2.2 else []).length = 0 := rfl
    rw [hl7]
    have y0 := keepc hb7 y0
    have y1 := keepc hb7 y1
    have y2 := keepc hb7 y2
    have y3 := keepc hb7 y3
    have y4 := keepc hb7 y4
    have y5 := keepc hb7 y5
    have y6 := keepc hb7 y6
    go_wp2
    go_ret
    exact ⟨rfl, hB7⟩
end Go.Proofs.Ytphlnihmfgmecaa
