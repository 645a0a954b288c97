/-
  'FnExactPlayerSure' returns true, for every player: both packages' 'PlayerSure' answer alike.
  Conditions: none.
-/
import Derived.Test.YtchofialljhojaaGG
import Derived.Test.YtchofialljhojaaGH
namespace Go.Proofs.Ytchofialljhojaa
open Go.RowKit Rg
set_option linter.unusedVariables false

theorem eqReplySame_c (t : ReplyT) (w : World) : Calls Try.prog 20 #[.agg #[.int .i64 t.1, .int .i64 t.2.1, .int .i64 t.2.2.1, .int .i64 t.2.2.2], .agg #[.int .i64 t.1, .int .i64 t.2.1, .int .i64 t.2.2.1, .int .i64 t.2.2.2]] w fun e w' => e = .returned (.bool true) ∧ Below w.heap.size w w' := by
  have := eqReply_c t t w
  simpa using this
set_option maxRecDepth 100000 in
set_option maxHeartbeats 4000000 in
theorem lawPlayerSure (r : ReqV) (A : Option Addr) (n c : Nat) (xs : List ReplyT) (w : World) (hn : n = xs.length) (hc : n ≤ c) (hcm : c ≤ maxLen) (hs : Sl encReply 4 w 0 w.heap.size A xs) :
    Calls Try.prog 4 #[.agg #[.int .i64 r.1, .int .i64 r.2.1, .int .i64 r.2.2.1, .int .i64 r.2.2.2.1, .int .i64 r.2.2.2.2, .slice A n c]] w fun e w' => e = .returned (.bool true) ∧ Below w.heap.size w w' := by
  have hn' := hide hn
  clear hn
  have hnm : n ≤ maxLen := Nat.le_trans hc hcm
  have hW : Below w.heap.size w (w.alloc (.cells #[.int .i64 r.1, .int .i64 r.2.1, .int .i64 r.2.2.1, .int .i64 r.2.2.2.1, .int .i64 r.2.2.2.2, .slice A n c] 26)) := (Below.refl _ _).alloc (Nat.le_refl _) _
  have x0 : (w.alloc (.cells #[.int .i64 r.1, .int .i64 r.2.1, .int .i64 r.2.2.1, .int .i64 r.2.2.2.1, .int .i64 r.2.2.2.2, .slice A n c] 26)).cell? ⟨w.heap.size, 0, none⟩ = some (.int .i64 r.1) := by simp
  have x1 : (w.alloc (.cells #[.int .i64 r.1, .int .i64 r.2.1, .int .i64 r.2.2.1, .int .i64 r.2.2.2.1, .int .i64 r.2.2.2.2, .slice A n c] 26)).cell? ⟨w.heap.size, 1, none⟩ = some (.int .i64 r.2.1) := by simp
  have x2 : (w.alloc (.cells #[.int .i64 r.1, .int .i64 r.2.1, .int .i64 r.2.2.1, .int .i64 r.2.2.2.1, .int .i64 r.2.2.2.2, .slice A n c] 26)).cell? ⟨w.heap.size, 2, none⟩ = some (.int .i64 r.2.2.1) := by simp
  have x3 : (w.alloc (.cells #[.int .i64 r.1, .int .i64 r.2.1, .int .i64 r.2.2.1, .int .i64 r.2.2.2.1, .int .i64 r.2.2.2.2, .slice A n c] 26)).cell? ⟨w.heap.size, 3, none⟩ = some (.int .i64 r.2.2.2.1) := by simp
  have x4 : (w.alloc (.cells #[.int .i64 r.1, .int .i64 r.2.1, .int .i64 r.2.2.1, .int .i64 r.2.2.2.1, .int .i64 r.2.2.2.2, .slice A n c] 26)).cell? ⟨w.heap.size, 4, none⟩ = some (.int .i64 r.2.2.2.2) := by simp
  have x5 : (w.alloc (.cells #[.int .i64 r.1, .int .i64 r.2.1, .int .i64 r.2.2.1, .int .i64 r.2.2.2.1, .int .i64 r.2.2.2.2, .slice A n c] 26)).cell? ⟨w.heap.size, 5, none⟩ = some (.slice A n c) := by simp
  go_enter Try.func4, Try.ntmps4
  go_wp2_with fail
  generalize w.alloc (.cells #[.int .i64 r.1, .int .i64 r.2.1, .int .i64 r.2.2.1, .int .i64 r.2.2.2.1, .int .i64 r.2.2.2.2, .slice A n c] 26) = w0 at *
  refine (szPlayer_c r A n c w0 hnm).mono ?_
  rintro e w1 ⟨rfl, hb1⟩
  have hB1 := hW.trans (hb1.mono hW.size)
  have x0 := keepc hb1 x0
  have x1 := keepc hb1 x1
  have x2 := keepc hb1 x2
  have x3 := keepc hb1 x3
  have x4 := keepc hb1 x4
  have x5 := keepc hb1 x5
  by_cases hb : n ≤ 1048576
  · simp only [hb, if_true]
    have d0 : decide ((1048576 : Int) - (n : Int) < 0) = false := by simp; omega
    have hbx : xs.length ≤ 1048576 := by have := hn'.out; omega
    go_wp2_with fail
    refine (toPlayer_c r A n c 0 _ xs w1 hn'.out hb (hs.below hB1 (Nat.le_refl _)) hB1.size).mono ?_
    rintro e w2 ⟨A2, c2, rfl, ho2, hb2⟩
    have hB2 := hB1.trans (hb2.mono hB1.size)
    have h2c := ho2.cap
    have x0 := keepc hb2 x0
    have x1 := keepc hb2 x1
    have x2 := keepc hb2 x2
    have x3 := keepc hb2 x3
    have x4 := keepc hb2 x4
    have x5 := keepc hb2 x5
    go_wp2_with fail
    refine (specPlayerSure_c r A2 xs.length c2 _ _ xs w2 rfl hbx h2c.1 h2c.2 (ho2.slAt encReply_len).2.2 (Nat.le_refl _)).mono ?_
    rintro e w3 ⟨rfl, hb3⟩
    have hB3 := hB2.trans (hb3.mono hB2.size)
    have x0 := keepc hb3 x0
    have x1 := keepc hb3 x1
    have x2 := keepc hb3 x2
    have x3 := keepc hb3 x3
    have x4 := keepc hb3 x4
    have x5 := keepc hb3 x5
    have hA3 := (Below.refl w3.heap.size w3).alloc (Nat.le_refl _) (.cells #[.int .i64 (sureL r xs).1.1, .int .i64 (sureL r xs).1.2.1, .int .i64 (sureL r xs).1.2.2.1, .int .i64 (sureL r xs).1.2.2.2] 37)
    have hB3 := hB3.trans (hA3.mono hB3.size)
    have x0 := keepc hA3 x0
    have x1 := keepc hA3 x1
    have x2 := keepc hA3 x2
    have x3 := keepc hA3 x3
    have x4 := keepc hA3 x4
    have x5 := keepc hA3 x5
    have s0 : (w3.alloc (.cells #[.int .i64 (sureL r xs).1.1, .int .i64 (sureL r xs).1.2.1, .int .i64 (sureL r xs).1.2.2.1, .int .i64 (sureL r xs).1.2.2.2] 37)).cell? ⟨w3.heap.size, 0, none⟩ = some (.int .i64 (sureL r xs).1.1) := by simp
    have s1 : (w3.alloc (.cells #[.int .i64 (sureL r xs).1.1, .int .i64 (sureL r xs).1.2.1, .int .i64 (sureL r xs).1.2.2.1, .int .i64 (sureL r xs).1.2.2.2] 37)).cell? ⟨w3.heap.size, 1, none⟩ = some (.int .i64 (sureL r xs).1.2.1) := by simp
    have s2 : (w3.alloc (.cells #[.int .i64 (sureL r xs).1.1, .int .i64 (sureL r xs).1.2.1, .int .i64 (sureL r xs).1.2.2.1, .int .i64 (sureL r xs).1.2.2.2] 37)).cell? ⟨w3.heap.size, 2, none⟩ = some (.int .i64 (sureL r xs).1.2.2.1) := by simp
    have s3 : (w3.alloc (.cells #[.int .i64 (sureL r xs).1.1, .int .i64 (sureL r xs).1.2.1, .int .i64 (sureL r xs).1.2.2.1, .int .i64 (sureL r xs).1.2.2.2] 37)).cell? ⟨w3.heap.size, 3, none⟩ = some (.int .i64 (sureL r xs).1.2.2.2) := by simp
    go_wp2_with fail
    generalize w3.alloc (.cells #[.int .i64 (sureL r xs).1.1, .int .i64 (sureL r xs).1.2.1, .int .i64 (sureL r xs).1.2.2.1, .int .i64 (sureL r xs).1.2.2.2] 37) = w4 at *
    refine (toPlayer_c r A n c 0 _ xs w4 hn'.out hb (hs.below hB3 (Nat.le_refl _)) hB3.size).mono ?_
    rintro e w5 ⟨A4, c4, rfl, ho4, hb5⟩
    have hB5 := hB3.trans (hb5.mono hB3.size)
    have x0 := keepc hb5 x0
    have x1 := keepc hb5 x1
    have x2 := keepc hb5 x2
    have x3 := keepc hb5 x3
    have x4 := keepc hb5 x4
    have x5 := keepc hb5 x5
    have s0 := keepc hb5 s0
    have s1 := keepc hb5 s1
    have s2 := keepc hb5 s2
    have s3 := keepc hb5 s3
    have hA5 := (Below.refl w5.heap.size w5).alloc (Nat.le_refl _) (.cells #[.int .i64 r.1, .int .i64 r.2.1, .int .i64 r.2.2.1, .int .i64 r.2.2.2.1, .int .i64 r.2.2.2.2, .slice A4 xs.length c4] 32)
    have hB6 := hB5.trans (hA5.mono hB5.size)
    have ho5 := ho4.alloc (.cells #[.int .i64 r.1, .int .i64 r.2.1, .int .i64 r.2.2.1, .int .i64 r.2.2.2.1, .int .i64 r.2.2.2.2, .slice A4 xs.length c4] 32)
    have h4c := ho4.cap
    have x0 := keepc hA5 x0
    have x1 := keepc hA5 x1
    have x2 := keepc hA5 x2
    have x3 := keepc hA5 x3
    have x4 := keepc hA5 x4
    have x5 := keepc hA5 x5
    have s0 := keepc hA5 s0
    have s1 := keepc hA5 s1
    have s2 := keepc hA5 s2
    have s3 := keepc hA5 s3
    have y0 : (w5.alloc (.cells #[.int .i64 r.1, .int .i64 r.2.1, .int .i64 r.2.2.1, .int .i64 r.2.2.2.1, .int .i64 r.2.2.2.2, .slice A4 xs.length c4] 32)).cell? ⟨w5.heap.size, 0, none⟩ = some (.int .i64 r.1) := by simp
    have y1 : (w5.alloc (.cells #[.int .i64 r.1, .int .i64 r.2.1, .int .i64 r.2.2.1, .int .i64 r.2.2.2.1, .int .i64 r.2.2.2.2, .slice A4 xs.length c4] 32)).cell? ⟨w5.heap.size, 1, none⟩ = some (.int .i64 r.2.1) := by simp
    have y2 : (w5.alloc (.cells #[.int .i64 r.1, .int .i64 r.2.1, .int .i64 r.2.2.1, .int .i64 r.2.2.2.1, .int .i64 r.2.2.2.2, .slice A4 xs.length c4] 32)).cell? ⟨w5.heap.size, 2, none⟩ = some (.int .i64 r.2.2.1) := by simp
    have y3 : (w5.alloc (.cells #[.int .i64 r.1, .int .i64 r.2.1, .int .i64 r.2.2.1, .int .i64 r.2.2.2.1, .int .i64 r.2.2.2.2, .slice A4 xs.length c4] 32)).cell? ⟨w5.heap.size, 3, none⟩ = some (.int .i64 r.2.2.2.1) := by simp
    have y4 : (w5.alloc (.cells #[.int .i64 r.1, .int .i64 r.2.1, .int .i64 r.2.2.1, .int .i64 r.2.2.2.1, .int .i64 r.2.2.2.2, .slice A4 xs.length c4] 32)).cell? ⟨w5.heap.size, 4, none⟩ = some (.int .i64 r.2.2.2.2) := by simp
    have y5 : (w5.alloc (.cells #[.int .i64 r.1, .int .i64 r.2.1, .int .i64 r.2.2.1, .int .i64 r.2.2.2.1, .int .i64 r.2.2.2.2, .slice A4 xs.length c4] 32)).cell? ⟨w5.heap.size, 5, none⟩ = some (.slice A4 xs.length c4) := by simp
    go_wp2_with fail
    generalize w5.alloc (.cells #[.int .i64 r.1, .int .i64 r.2.1, .int .i64 r.2.2.1, .int .i64 r.2.2.2.1, .int .i64 r.2.2.2.2, .slice A4 xs.length c4] 32) = w6 at *
    refine (PlayerSure_c r A4 xs.length c4 _ _ xs w6 rfl hbx h4c.1 h4c.2 (ho5.slAt encReply_len).2.2 (Nat.le_refl _)).mono ?_
    rintro e w7 ⟨rfl, hb7⟩
    have hB7 := hB6.trans (hb7.mono hB6.size)
    have ho7 := ho5.below hb7 (Nat.le_refl _)
    have x0 := keepc hb7 x0
    have x1 := keepc hb7 x1
    have x2 := keepc hb7 x2
    have x3 := keepc hb7 x3
    have x4 := keepc hb7 x4
    have x5 := keepc hb7 x5
    have s0 := keepc hb7 s0
    have s1 := keepc hb7 s1
    have s2 := keepc hb7 s2
    have s3 := keepc hb7 s3
    have y0 := keepc hb7 y0
    have y1 := keepc hb7 y1
    have y2 := keepc hb7 y2
    have y3 := keepc hb7 y3
    have y4 := keepc hb7 y4
    have y5 := keepc hb7 y5
    have hA7 := (Below.refl w7.heap.size w7).alloc (Nat.le_refl _) (.cells #[.int .i64 (sureL r xs).1.1, .int .i64 (sureL r xs).1.2.1, .int .i64 (sureL r xs).1.2.2.1, .int .i64 (sureL r xs).1.2.2.2] 37)
    have hB8 := hB7.trans (hA7.mono hB7.size)
    have ho8 := ho7.alloc (.cells #[.int .i64 (sureL r xs).1.1, .int .i64 (sureL r xs).1.2.1, .int .i64 (sureL r xs).1.2.2.1, .int .i64 (sureL r xs).1.2.2.2] 37)
    have x0 := keepc hA7 x0
    have x1 := keepc hA7 x1
    have x2 := keepc hA7 x2
    have x3 := keepc hA7 x3
    have x4 := keepc hA7 x4
    have x5 := keepc hA7 x5
    have s0 := keepc hA7 s0
    have s1 := keepc hA7 s1
    have s2 := keepc hA7 s2
    have s3 := keepc hA7 s3
    have y0 := keepc hA7 y0
    have y1 := keepc hA7 y1
    have y2 := keepc hA7 y2
    have y3 := keepc hA7 y3
    have y4 := keepc hA7 y4
    have y5 := keepc hA7 y5
    have z0 : (w7.alloc (.cells #[.int .i64 (sureL r xs).1.1, .int .i64 (sureL r xs).1.2.1, .int .i64 (sureL r xs).1.2.2.1, .int .i64 (sureL r xs).1.2.2.2] 37)).cell? ⟨w7.heap.size, 0, none⟩ = some (.int .i64 (sureL r xs).1.1) := by simp
    have z1 : (w7.alloc (.cells #[.int .i64 (sureL r xs).1.1, .int .i64 (sureL r xs).1.2.1, .int .i64 (sureL r xs).1.2.2.1, .int .i64 (sureL r xs).1.2.2.2] 37)).cell? ⟨w7.heap.size, 1, none⟩ = some (.int .i64 (sureL r xs).1.2.1) := by simp
    have z2 : (w7.alloc (.cells #[.int .i64 (sureL r xs).1.1, .int .i64 (sureL r xs).1.2.1, .int .i64 (sureL r xs).1.2.2.1, .int .i64 (sureL r xs).1.2.2.2] 37)).cell? ⟨w7.heap.size, 2, none⟩ = some (.int .i64 (sureL r xs).1.2.2.1) := by simp
    have z3 : (w7.alloc (.cells #[.int .i64 (sureL r xs).1.1, .int .i64 (sureL r xs).1.2.1, .int .i64 (sureL r xs).1.2.2.1, .int .i64 (sureL r xs).1.2.2.2] 37)).cell? ⟨w7.heap.size, 3, none⟩ = some (.int .i64 (sureL r xs).1.2.2.2) := by simp
    go_wp2_with fail
    generalize w7.alloc (.cells #[.int .i64 (sureL r xs).1.1, .int .i64 (sureL r xs).1.2.1, .int .i64 (sureL r xs).1.2.2.1, .int .i64 (sureL r xs).1.2.2.2] 37) = w8 at *
    refine (eqReplySame_c (sureL r xs).1 w8).mono ?_
    rintro e w9 ⟨rfl, hb9⟩
    have hB9 := hB8.trans (hb9.mono hB8.size)
    have ho9 := ho8.below hb9 (Nat.le_refl _)
    have x0 := keepc hb9 x0
    have x1 := keepc hb9 x1
    have x2 := keepc hb9 x2
    have x3 := keepc hb9 x3
    have x4 := keepc hb9 x4
    have x5 := keepc hb9 x5
    have y0 := keepc hb9 y0
    have y1 := keepc hb9 y1
    have y2 := keepc hb9 y2
    have y3 := keepc hb9 y3
    have y4 := keepc hb9 y4
    have y5 := keepc hb9 y5
    have hl9 : w5.heap.size < w9.heap.size := lt_of_cell y0
    have hl9' : w.heap.size < w9.heap.size := lt_of_cell x0
    have q1 : ((sureL r xs).2 != (sureL r xs).2) = false := by simp
    have hb9 : Below w9.heap.size w9 w9.drew := (Below.refl _ _).drew
    have hs9 : Sl encReply 4 w9.drew 0 w.heap.size A xs := hs.below hB9.drew (Nat.le_refl _)
    have hss9 : w.heap.size ≤ w9.drew.heap.size := hB9.size
    have ho9 : Own encReply 4 37 w9.drew w4.heap.size (.slice A4 xs.length c4) xs := ho9
    clear hb1 hb2 hb3 hb5 hb7 hA3 hA5 hA7 ho2 ho4 ho5 ho7 ho8 s0 s1 s2 s3 z0 z1 z2 z3
    go_wp2
    refine wp_region_T (Since _) [] [] [36] [0, 1, 2, 3, 4] (by kernel_rfl) (by kernel_rfl) (by kernel_rfl) (Since.drew _) ?_; simp only [pickL, List.getElem?_cons_succ, List.getElem?_cons_zero]
    go_wp2_with (first
      | (with_reducible refine Since.and_ ?_ ?_; (focus (repeat (first | (with_reducible exact Since.refl _) | assumption | (with_reducible refine Since.drewR ?_) | (with_reducible refine Since.alloc ?_ _) | ((with_reducible apply Since.below); rotate_left; (focus assumption))))); intro hS) | ((with_reducible refine wpT_q0 ?_ ?_ ?_ ?_); (focus rfl); (focus rfl); (focus rfl); intro K hK) | ((with_reducible apply wpT_l); (focus rfl); (focus rfl); (focus rfl); (focus rfl); (focus (first | exact Since.drew _ | assumption)); (focus (simp <;> omega)); (focus go_simp); intro K hK) | ((with_reducible refine wpT_xs0 ?_ ?_ ?_); (focus rfl); (focus rfl); intro K hK) | ((with_reducible refine wpT_noL ?_ ?_); (focus (first | exact wanted_no _ _ _ rfl rfl rfl | exact wanted_un _ _ _ rfl rfl rfl)); simp only [setO, List.set_cons_succ, List.set_cons_zero]) | ((with_reducible refine wpT_q1 ?_ ?_ ?_ ?_); (focus exact wanted_yes _ _ _ rfl rfl rfl); (focus rfl); (focus rfl); intro K hK) | ((with_reducible refine wpT_xs1 ?_ ?_ ?_); (focus exact wanted_yes _ _ _ rfl rfl rfl); (focus rfl); intro K hK) | ((with_reducible refine wpT_nil ?_); try dsimp only)
      | (go_at_call 15; refine (toPlayer_c r A n c 0 _ xs w9.drew hn'.out hb hs9 hss9).mono ?_; rintro e w10 ⟨A7, c7, rfl, ho10, hb10⟩; have ho90 := ho9.below hb10 (Nat.le_refl _); have hB10 := hB9.drew.trans (hb10.mono hB9.size); have y0 := keepc (w := w9.drew) hb10 y0; have y1 := keepc (w := w9.drew) hb10 y1; have y2 := keepc (w := w9.drew) hb10 y2; have y3 := keepc (w := w9.drew) hb10 y3; have y4 := keepc (w := w9.drew) hb10 y4; have y5 := keepc (w := w9.drew) hb10 y5; have hb10 := hb10)
      | (go_at_call 17; refine (eqSameP_c ho90 ho10 hbx).mono ?_; rintro e w11 ⟨rfl, hb11⟩))
    go_ret
    exact ⟨rfl, hB10.trans (hb11.mono hB10.size)⟩
  · simp only [hb, if_false]
    go_wp2
    go_ret
    exact ⟨rfl, hB1⟩

/-! ### The row of 'laws.FnExactPlayerSure' -/
namespace FnExactPlayerSure
open Go.ChangeShapes Go.WideShapes Go.ChangeAt Go.RowKit
open Go.ChangeMaps (open_string shut_string)
theorem own : ownKnob Try.prog.godebug = none := by kernel_rfl
theorem laidOut : laidOutB Try.prog = true := by kernel_rfl

set_option maxRecDepth 100000 in
theorem lifted (os : Os) (started : os.Started) (H : Type) (enc : TypeId × Value → H) :
    ReturnsInHanded {} Try.checked os 4 .any (Rows.fnExactPlayerSureSpec.pre6 enc Try.prog Try.f4 Rows.fnExactPlayerSureRow.domain false) (Rows.fnExactPlayerSureSpec.post enc Try.prog Try.f4 false true false false) := by
  refine returnsInHanded_of_change (C := Try.checked) own started (by kernel_rfl) Try.func4
    (ChangeSpec.witness6 (enc := enc) (C := Try.checked) false ⟨#[], #[.agg #[.int .i64 0, .int .i64 0, .int .i64 0, .int .i64 0, .int .i64 0, .slice none 0 0]], []⟩ 8 (by kernel_rfl) (by kernel_rfl) (by kernel_rfl) (by kernel_rfl)) ?_
  intro W base args ds gs before hval0 hW hcnd _
  have hval : ∀ (j : Nat) t v, Try.f4.params[j]? = some t → args[j]? = some v → Value.okWide Try.prog W .any base t v := hval0
  have hW' := hW
  obtain ⟨p, q, hA0, hV, rfl, hfz, hnd⟩ := hW
  have hA : DataW.TrodAll enc Try.prog W 0 (fun _ => true) true Try.f4.params.toList args.toList ds p := hA0
  rw [Try.params4] at hA hval
  obtain ⟨v0, vs0, d0, ds0, p0, q0, hargs, rfl, rfl, h0, r0⟩ := trodAll_cons hA
  obtain ⟨rfl, rfl, rfl⟩ := trodAll_nil r0
  obtain rfl : args = #[v0] := by cases args; simp_all
  obtain ⟨rfl, rfl⟩ := trodVars_none hV
  have k0 := h0
  have lt0 : ∀ x ∈ p0, x.block < W.heap.size := by obtain ⟨m, hm⟩ := k0; exact DataW.trod_lt m _ _ _ hm
  obtain ⟨r0, A0, len0, cap0, z0, rfl, hl0, hc0, hm0, w0⟩ : ∃ (r : ReqV) (A : Option Addr) (len cap : Nat) (xs : List ReplyT), v0 = .agg #[.int .i64 r.1, .int .i64 r.2.1, .int .i64 r.2.2.1, .int .i64 r.2.2.2.1, .int .i64 r.2.2.2.2, .slice A len cap] ∧ len = xs.length ∧ len ≤ cap ∧ cap ≤ maxLen ∧ Sl encReply 4 W 0 W.heap.size A xs := by
    obtain ⟨fuel, hf⟩ := h0
    obtain ⟨cs, rfl, hcs⟩ := okWide_struct Try.underlying26 (hval 0 26 v0 rfl rfl)
    simp only [Value.cells] at hf
    exact trod_player hf
  clear hA0 hval0
  refine (lawPlayerSure r0 A0 len0 cap0 z0 W hl0 hc0 hm0 w0).mono fun e W' ⟨he, bel⟩ => ?_
  subst he
  exact ⟨_, rfl, _, _, _, [], _, [], hW', trodAll_mk1 (shut_bool Try.underlying4 _), (trodAll_cons_mk (Below.trod laidOut (by kernel_rfl) (of_decide_eq_true (by kernel_rfl)) k0 bel lt0) trodAll_mk0), rfl, bel.frame _, fun h => by cases h⟩

theorem over : Rows.fnExactPlayerSureRow.holds Try.pinned (OpenSpec.ofChange Rows.fnExactPlayerSureSpec) :=
  OpenClaim.holds_of_wide 4 Try.f4 rfl rfl rfl rfl rfl rfl rfl ⟨rfl, rfl, rfl, rfl, rfl⟩ rfl rfl rfl rfl rfl (by kernel_rfl) Try.func4 (by kernel_rfl)
    (of_decide_eq_true (by kernel_rfl)) (by unfold Func.isWrapper; first | (rw [if_pos (by decide +kernel)]; kernel_rfl) | (rw [if_neg (by decide +kernel)]; exact ⟨rfl, rfl⟩))
    (fun os started H enc _ => lifted os started H enc)

theorem proved : Rows.FnExactPlayerSureSaid := over
end FnExactPlayerSure
end Go.Proofs.Ytchofialljhojaa
