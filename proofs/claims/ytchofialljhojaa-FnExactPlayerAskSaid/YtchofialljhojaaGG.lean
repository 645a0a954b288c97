/-
  'FnExactPlayerOk' returns true, for every player: both packages' 'PlayerOk' answer alike.
  Conditions: none.
-/
import Derived.Test.YtchofialljhojaaGD
import Derived.Test.YtchofialljhojaaGF
namespace Go.Proofs.Ytchofialljhojaa
open Go.RowKit Rg
set_option linter.unusedVariables false
set_option linter.unusedSimpArgs false

theorem specPlayerOk_c (r : ReqV) (A : Option Addr) (n c lo hi : Nat) (xs : List ReplyT) (w : World) (hn : n = xs.length) (hb : n ≤ 1048576) (hs : Sl encReply 4 w lo hi A xs) (hhi : hi ≤ w.heap.size) :
    Calls Try.prog 14 #[.agg #[.int .i64 r.1, .int .i64 r.2.1, .int .i64 r.2.2.1, .int .i64 r.2.2.2.1, .int .i64 r.2.2.2.2, .slice A n c]] w fun e w' => e = .returned (.bool (decide (okPl r xs))) ∧ Below w.heap.size w w' := by
  have hn' := hide hn
  clear hn
  have hb0 : Below w.heap.size w (w.alloc (.cells #[.int .i64 r.1, .int .i64 r.2.1, .int .i64 r.2.2.1, .int .i64 r.2.2.2.1, .int .i64 r.2.2.2.2, .slice A n c] 32)) := (Below.refl _ _).alloc (Nat.le_refl _) _
  go_enter Try.func14, Try.ntmps14
  go_wp2_with fail
  refine (l11Ok_c r A n c lo hi xs _ hn'.out hb (hs.below hb0 hhi) (Nat.le_trans hhi hb0.size)).mono ?_
  rintro e w1 ⟨rfl, hb1⟩
  go_wp2
  go_ret
  exact ⟨rfl, hb0.trans (hb1.mono hb0.size)⟩
set_option maxRecDepth 100000 in
set_option maxHeartbeats 2000000 in
theorem lawPlayerOk (r : ReqV) (A : Option Addr) (n c : Nat) (xs : List ReplyT) (w : World) (hn : n = xs.length) (hc : n ≤ c) (hcm : c ≤ maxLen) (hs : Sl encReply 4 w 0 w.heap.size A xs) :
    Calls Try.prog 3 #[.agg #[.int .i64 r.1, .int .i64 r.2.1, .int .i64 r.2.2.1, .int .i64 r.2.2.2.1, .int .i64 r.2.2.2.2, .slice A n c]] w fun e w' => e = .returned (.bool true) ∧ Below w.heap.size w w' := by
  have hn' := hide hn
  clear hn
  have hnm : n ≤ maxLen := Nat.le_trans hc hcm
  have hW : Below w.heap.size w (w.alloc (.cells #[.int .i64 r.1, .int .i64 r.2.1, .int .i64 r.2.2.1, .int .i64 r.2.2.2.1, .int .i64 r.2.2.2.2, .slice A n c] 26)) := (Below.refl _ _).alloc (Nat.le_refl _) _
  have x0 : (w.alloc (.cells #[.int .i64 r.1, .int .i64 r.2.1, .int .i64 r.2.2.1, .int .i64 r.2.2.2.1, .int .i64 r.2.2.2.2, .slice A n c] 26)).cell? ⟨w.heap.size, 0, none⟩ = some (.int .i64 r.1) := by simp
  have x1 : (w.alloc (.cells #[.int .i64 r.1, .int .i64 r.2.1, .int .i64 r.2.2.1, .int .i64 r.2.2.2.1, .int .i64 r.2.2.2.2, .slice A n c] 26)).cell? ⟨w.heap.size, 1, none⟩ = some (.int .i64 r.2.1) := by simp
  have x2 : (w.alloc (.cells #[.int .i64 r.1, .int .i64 r.2.1, .int .i64 r.2.2.1, .int .i64 r.2.2.2.1, .int .i64 r.2.2.2.2, .slice A n c] 26)).cell? ⟨w.heap.size, 2, none⟩ = some (.int .i64 r.2.2.1) := by simp
  have x3 : (w.alloc (.cells #[.int .i64 r.1, .int .i64 r.2.1, .int .i64 r.2.2.1, .int .i64 r.2.2.2.1, .int .i64 r.2.2.2.2, .slice A n c] 26)).cell? ⟨w.heap.size, 3, none⟩ = some (.int .i64 r.2.2.2.1) := by simp
  have x4 : (w.alloc (.cells #[.int .i64 r.1, .int .i64 r.2.1, .int .i64 r.2.2.1, .int .i64 r.2.2.2.1, .int .i64 r.2.2.2.2, .slice A n c] 26)).cell? ⟨w.heap.size, 4, none⟩ = some (.int .i64 r.2.2.2.2) := by simp
  have x5 : (w.alloc (.cells #[.int .i64 r.1, .int .i64 r.2.1, .int .i64 r.2.2.1, .int .i64 r.2.2.2.1, .int .i64 r.2.2.2.2, .slice A n c] 26)).cell? ⟨w.heap.size, 5, none⟩ = some (.slice A n c) := by simp
  go_enter Try.func3, Try.ntmps3
  go_wp2_with fail
  generalize w.alloc (.cells #[.int .i64 r.1, .int .i64 r.2.1, .int .i64 r.2.2.1, .int .i64 r.2.2.2.1, .int .i64 r.2.2.2.2, .slice A n c] 26) = w0 at *
  refine (szPlayer_c r A n c w0 hnm).mono ?_
  rintro e w1 ⟨rfl, hb1⟩
  have hB1 := hW.trans (hb1.mono hW.size)
  have x0 := keepc hb1 x0
  have x1 := keepc hb1 x1
  have x2 := keepc hb1 x2
  have x3 := keepc hb1 x3
  have x4 := keepc hb1 x4
  have x5 := keepc hb1 x5
  by_cases hb : n ≤ 1048576
  · simp only [hb, if_true]
    have d0 : decide ((1048576 : Int) - (n : Int) < 0) = false := by simp; omega
    have hbx : xs.length ≤ 1048576 := by have := hn'.out; omega
    go_wp2_with fail
    refine (toPlayer_c r A n c 0 _ xs w1 hn'.out hb (hs.below hB1 (Nat.le_refl _)) hB1.size).mono ?_
    rintro e w2 ⟨A2, c2, rfl, ho2, hb2⟩
    have hB2 := hB1.trans (hb2.mono hB1.size)
    have x0 := keepc hb2 x0
    have x1 := keepc hb2 x1
    have x2 := keepc hb2 x2
    have x3 := keepc hb2 x3
    have x4 := keepc hb2 x4
    have x5 := keepc hb2 x5
    go_wp2_with fail
    refine (specPlayerOk_c r A2 xs.length c2 _ _ xs w2 rfl hbx (ho2.slAt encReply_len).2.2 (Nat.le_refl _)).mono ?_
    rintro e w3 ⟨rfl, hb3⟩
    have hB3 := hB2.trans (hb3.mono hB2.size)
    have x0 := keepc hb3 x0
    have x1 := keepc hb3 x1
    have x2 := keepc hb3 x2
    have x3 := keepc hb3 x3
    have x4 := keepc hb3 x4
    have x5 := keepc hb3 x5
    go_wp2_with fail
    refine (toPlayer_c r A n c 0 _ xs w3 hn'.out hb (hs.below hB3 (Nat.le_refl _)) hB3.size).mono ?_
    rintro e w4 ⟨A4, c4, rfl, ho4, hb4⟩
    have hB4 := hB3.trans (hb4.mono hB3.size)
    have x0 := keepc hb4 x0
    have x1 := keepc hb4 x1
    have x2 := keepc hb4 x2
    have x3 := keepc hb4 x3
    have x4 := keepc hb4 x4
    have x5 := keepc hb4 x5
    have hA5 := (Below.refl w4.heap.size w4).alloc (Nat.le_refl _) (.cells #[.int .i64 r.1, .int .i64 r.2.1, .int .i64 r.2.2.1, .int .i64 r.2.2.2.1, .int .i64 r.2.2.2.2, .slice A4 xs.length c4] 32)
    have hB5 := hB4.trans (hA5.mono hB4.size)
    have ho5 := ho4.alloc (.cells #[.int .i64 r.1, .int .i64 r.2.1, .int .i64 r.2.2.1, .int .i64 r.2.2.2.1, .int .i64 r.2.2.2.2, .slice A4 xs.length c4] 32)
    have x0 := keepc hA5 x0
    have x1 := keepc hA5 x1
    have x2 := keepc hA5 x2
    have x3 := keepc hA5 x3
    have x4 := keepc hA5 x4
    have x5 := keepc hA5 x5
    have y0 : (w4.alloc (.cells #[.int .i64 r.1, .int .i64 r.2.1, .int .i64 r.2.2.1, .int .i64 r.2.2.2.1, .int .i64 r.2.2.2.2, .slice A4 xs.length c4] 32)).cell? ⟨w4.heap.size, 0, none⟩ = some (.int .i64 r.1) := by simp
    have y1 : (w4.alloc (.cells #[.int .i64 r.1, .int .i64 r.2.1, .int .i64 r.2.2.1, .int .i64 r.2.2.2.1, .int .i64 r.2.2.2.2, .slice A4 xs.length c4] 32)).cell? ⟨w4.heap.size, 1, none⟩ = some (.int .i64 r.2.1) := by simp
    have y2 : (w4.alloc (.cells #[.int .i64 r.1, .int .i64 r.2.1, .int .i64 r.2.2.1, .int .i64 r.2.2.2.1, .int .i64 r.2.2.2.2, .slice A4 xs.length c4] 32)).cell? ⟨w4.heap.size, 2, none⟩ = some (.int .i64 r.2.2.1) := by simp
    have y3 : (w4.alloc (.cells #[.int .i64 r.1, .int .i64 r.2.1, .int .i64 r.2.2.1, .int .i64 r.2.2.2.1, .int .i64 r.2.2.2.2, .slice A4 xs.length c4] 32)).cell? ⟨w4.heap.size, 3, none⟩ = some (.int .i64 r.2.2.2.1) := by simp
    have y4 : (w4.alloc (.cells #[.int .i64 r.1, .int .i64 r.2.1, .int .i64 r.2.2.1, .int .i64 r.2.2.2.1, .int .i64 r.2.2.2.2, .slice A4 xs.length c4] 32)).cell? ⟨w4.heap.size, 4, none⟩ = some (.int .i64 r.2.2.2.2) := by simp
    have y5 : (w4.alloc (.cells #[.int .i64 r.1, .int .i64 r.2.1, .int .i64 r.2.2.1, .int .i64 r.2.2.2.1, .int .i64 r.2.2.2.2, .slice A4 xs.length c4] 32)).cell? ⟨w4.heap.size, 5, none⟩ = some (.slice A4 xs.length c4) := by simp
    obtain ⟨_, h41, h42, _⟩ := ho4.sl encReply_len
    have h4c := ho4.cap
    go_wp2_with fail
    generalize w4.alloc (.cells #[.int .i64 r.1, .int .i64 r.2.1, .int .i64 r.2.2.1, .int .i64 r.2.2.2.1, .int .i64 r.2.2.2.2, .slice A4 xs.length c4] 32) = w5 at *
    refine (PlayerOk_c r A4 xs.length c4 _ _ xs w5 rfl hbx h4c.1 h4c.2 (ho5.slAt encReply_len).2.2 (Nat.le_refl _)).mono ?_
    rintro e w6 ⟨rfl, hb6⟩
    have hB6 := hB5.trans (hb6.mono hB5.size)
    have ho6 := ho5.below hb6 (Nat.le_refl _)
    have x0 := keepc hb6 x0
    have x1 := keepc hb6 x1
    have x2 := keepc hb6 x2
    have x3 := keepc hb6 x3
    have x4 := keepc hb6 x4
    have x5 := keepc hb6 x5
    have y0 := keepc hb6 y0
    have y1 := keepc hb6 y1
    have y2 := keepc hb6 y2
    have y3 := keepc hb6 y3
    have y4 := keepc hb6 y4
    have y5 := keepc hb6 y5
    have hl6 : w4.heap.size < w6.heap.size := lt_of_cell y0
    have hl6' : w.heap.size < w6.heap.size := lt_of_cell x0
    have q1 : (decide (okPl r xs) != decide (okPl r xs)) = false := by simp
    have hb6 : Below w6.heap.size w6 w6.drew := (Below.refl _ _).drew
    have hs6 : Sl encReply 4 w6.drew 0 w.heap.size A xs := hs.below hB6.drew (Nat.le_refl _)
    have hss6 : w.heap.size ≤ w6.drew.heap.size := hB6.size
    have ho6 : Own encReply 4 37 w6.drew w3.heap.size (.slice A4 xs.length c4) xs := ho6
    clear hb1 hb2 hb3 hb4 ho2 ho4 ho5 hA5
    go_wp2
    refine wp_region_T (Since _) [] [] [22] [0, 1, 2, 3, 4] (by kernel_rfl) (by kernel_rfl) (by kernel_rfl) (Since.drew _) ?_; simp only [pickL, List.getElem?_cons_succ, List.getElem?_cons_zero]
    go_wp2_with (first
      | (with_reducible refine Since.and_ ?_ ?_; (focus (repeat (first | (with_reducible exact Since.refl _) | assumption | (with_reducible refine Since.drewR ?_) | (with_reducible refine Since.alloc ?_ _) | ((with_reducible apply Since.below); rotate_left; (focus assumption))))); intro hS) | ((with_reducible refine wpT_q0 ?_ ?_ ?_ ?_); (focus rfl); (focus rfl); (focus rfl); intro K hK) | ((with_reducible apply wpT_l); (focus rfl); (focus rfl); (focus rfl); (focus rfl); (focus (first | exact Since.drew _ | assumption)); (focus (simp <;> omega)); (focus go_simp); intro K hK) | ((with_reducible refine wpT_xs0 ?_ ?_ ?_); (focus rfl); (focus rfl); intro K hK) | ((with_reducible refine wpT_noL ?_ ?_); (focus (first | exact wanted_no _ _ _ rfl rfl rfl | exact wanted_un _ _ _ rfl rfl rfl)); simp only [setO, List.set_cons_succ, List.set_cons_zero]) | ((with_reducible refine wpT_q1 ?_ ?_ ?_ ?_); (focus exact wanted_yes _ _ _ rfl rfl rfl); (focus rfl); (focus rfl); intro K hK) | ((with_reducible refine wpT_xs1 ?_ ?_ ?_); (focus exact wanted_yes _ _ _ rfl rfl rfl); (focus rfl); intro K hK) | ((with_reducible refine wpT_nil ?_); try dsimp only)
      | (go_at_call 15; refine (toPlayer_c r A n c 0 _ xs w6.drew hn'.out hb hs6 hss6).mono ?_; rintro e w7 ⟨A7, c7, rfl, ho7, hb7⟩; have ho67 := ho6.below hb7 (Nat.le_refl _); have hB7 := hB6.drew.trans (hb7.mono hB6.size); have y0 := keepc (w := w6.drew) hb7 y0; have y1 := keepc (w := w6.drew) hb7 y1; have y2 := keepc (w := w6.drew) hb7 y2; have y3 := keepc (w := w6.drew) hb7 y3; have y4 := keepc (w := w6.drew) hb7 y4; have y5 := keepc (w := w6.drew) hb7 y5; have hb7 := hb7)
      | (go_at_call 17; refine (eqSameP_c ho67 ho7 hbx).mono ?_; rintro e w8 ⟨rfl, hb8⟩))
    go_ret
    exact ⟨rfl, hB7.trans (hb8.mono hB7.size)⟩
  · simp only [hb, if_false]
    go_wp2
    go_ret
    exact ⟨rfl, hB1⟩

section
open Go.WideShapes Go.ChangeShapes Go.Deep
variable {H : Type} {enc : TypeId × Value → H} {w : World} {base : Nat} {spare : Nat → Bool} {held : Bool}
set_option maxRecDepth 100000 in
theorem trod_player {fuel : Nat} {cs : Array Value} {x : DataW H × List MemPlace} (h : DataW.trod enc Try.prog w base spare held fuel 26 cs.toList = some x) :
    ∃ (r : ReqV) (A : Option Addr) (len cap : Nat) (xs : List ReplyT), Value.agg cs = .agg #[.int .i64 r.1, .int .i64 r.2.1, .int .i64 r.2.2.1, .int .i64 r.2.2.2.1, .int .i64 r.2.2.2.2, .slice A len cap] ∧ len = xs.length ∧ len ≤ cap ∧ cap ≤ maxLen ∧ Sl encReply 4 w 0 w.heap.size A xs := by
  obtain ⟨ys, n, _, _, hlen, hys, hf⟩ := DataW.trod_struct Try.underlying26 h
  have h0 := hf 0 _ rfl
  have h1 := hf 1 _ rfl
  have c0 : Try.prog.cellsOf 23 = 5 := by kernel_rfl
  have c1 : Try.prog.cellsOf 24 = 1 := by kernel_rfl
  have c2 : Try.prog.cellsOf 26 = 6 := by kernel_rfl
  change DataW.trod enc Try.prog w base spare held n 23 ((cs.toList.drop 0).take (Try.prog.cellsOf 23)) = _ at h0
  change DataW.trod enc Try.prog w base spare held n 24 ((cs.toList.drop 5).take (Try.prog.cellsOf 24)) = _ at h1
  rw [c0] at h0
  rw [c1] at h1
  rw [c2] at hlen
  have hys2 : ys.length = 2 := hys
  obtain ⟨y0, y1, rfl⟩ : ∃ a b, ys = [a, b] := by
    match ys, hys2 with
    | [a, b], _ => exact ⟨a, b, rfl⟩
  obtain ⟨r, hr, _⟩ := trod_int5 Try.underlying23 Try.underlying3 rfl (by kernel_rfl) (by kernel_rfl) (by kernel_rfl) h0
  have hcs : cs.toList = (cs.toList.drop 0).take 5 ++ (cs.toList.drop 5).take 1 := by
    rw [List.drop_zero, List.take_of_length_le (l := cs.toList.drop 5) (by simp at hlen ⊢; omega), List.take_append_drop]
  obtain ⟨v, hv⟩ : ∃ v, (cs.toList.drop 5).take 1 = [v] := by
    have : ((cs.toList.drop 5).take 1).length = 1 := by simp at hlen ⊢; omega
    match hq : (cs.toList.drop 5).take 1, this with
    | [a], _ => exact ⟨a, rfl⟩
  rw [hv] at h1
  obtain ⟨A, len, cap, xs, rfl, e1, e2, e3, e4, _⟩ := trod_sl (encA := encReply) (sz := 4) (Good := fun _ => True) Try.underlying24 (by kernel_rfl) (by omega) encReply_len h1 (fun n cs y hy => trod_int4 Try.underlying51 Try.underlying3 rfl (by kernel_rfl) (by kernel_rfl) (by kernel_rfl) hy)
  refine ⟨r, A, len, cap, xs, ?_, e1, e2, e3, e4⟩
  rw [hv, hr] at hcs
  rw [← Array.toArray_toList (xs := cs), hcs]
  rfl
end

/-! ### The row of 'laws.FnExactPlayerOk' -/
namespace FnExactPlayerOk
open Go.ChangeShapes Go.WideShapes Go.ChangeAt Go.RowKit
open Go.ChangeMaps (open_string shut_string)
theorem own : ownKnob Try.prog.godebug = none := by kernel_rfl
theorem laidOut : laidOutB Try.prog = true := by kernel_rfl

set_option maxRecDepth 100000 in
set_option maxHeartbeats 1000000 in
theorem lifted (os : Os) (started : os.Started) (H : Type) (enc : TypeId × Value → H) :
    ReturnsInHanded {} Try.checked os 3 .any (Rows.fnExactPlayerOkSpec.pre6 enc Try.prog Try.f3 Rows.fnExactPlayerOkRow.domain false) (Rows.fnExactPlayerOkSpec.post enc Try.prog Try.f3 false true false false) := by
  refine returnsInHanded_of_change (C := Try.checked) own started (by kernel_rfl) Try.func3
    (ChangeSpec.witness6 (enc := enc) (C := Try.checked) false ⟨#[], #[.agg #[.int .i64 0, .int .i64 0, .int .i64 0, .int .i64 0, .int .i64 0, .slice none 0 0]], []⟩ 8 (by kernel_rfl) (by kernel_rfl) (by kernel_rfl) (by kernel_rfl)) ?_
  intro W base args ds gs before hval0 hW hcnd _
  have hval : ∀ (j : Nat) t v, Try.f3.params[j]? = some t → args[j]? = some v → Value.okWide Try.prog W .any base t v := hval0
  have hW' := hW
  obtain ⟨p, q, hA0, hV, rfl, hfz, hnd⟩ := hW
  have hA : DataW.TrodAll enc Try.prog W 0 (fun _ => true) true Try.f3.params.toList args.toList ds p := hA0
  rw [Try.params3] at hA hval
  obtain ⟨v0, vs0, d0, ds0, p0, q0, hargs, rfl, rfl, h0, r0⟩ := trodAll_cons hA
  obtain ⟨rfl, rfl, rfl⟩ := trodAll_nil r0
  obtain rfl : args = #[v0] := by cases args; simp_all
  obtain ⟨rfl, rfl⟩ := trodVars_none hV
  have k0 := h0
  have lt0 : ∀ x ∈ p0, x.block < W.heap.size := by obtain ⟨m, hm⟩ := k0; exact DataW.trod_lt m _ _ _ hm
  obtain ⟨r0, A0, len0, cap0, z0, rfl, hl0, hc0, hm0, w0⟩ : ∃ (r : ReqV) (A : Option Addr) (len cap : Nat) (xs : List ReplyT), v0 = .agg #[.int .i64 r.1, .int .i64 r.2.1, .int .i64 r.2.2.1, .int .i64 r.2.2.2.1, .int .i64 r.2.2.2.2, .slice A len cap] ∧ len = xs.length ∧ len ≤ cap ∧ cap ≤ maxLen ∧ Sl encReply 4 W 0 W.heap.size A xs := by
    obtain ⟨fuel, hf⟩ := h0
    obtain ⟨cs, rfl, hcs⟩ := okWide_struct Try.underlying26 (hval 0 26 v0 rfl rfl)
    simp only [Value.cells] at hf
    exact trod_player hf
  clear hA0 hval0
  refine (lawPlayerOk r0 A0 len0 cap0 z0 W hl0 hc0 hm0 w0).mono fun e W' ⟨he, bel⟩ => ?_
  subst he
  exact ⟨_, rfl, _, _, _, [], _, [], hW', trodAll_mk1 (shut_bool Try.underlying4 _), (trodAll_cons_mk (Below.trod laidOut (by kernel_rfl) (of_decide_eq_true (by kernel_rfl)) k0 bel lt0) trodAll_mk0), rfl, bel.frame _, fun h => by cases h⟩

theorem over : Rows.fnExactPlayerOkRow.holds Try.pinned (OpenSpec.ofChange Rows.fnExactPlayerOkSpec) :=
  OpenClaim.holds_of_wide 3 Try.f3 rfl rfl rfl rfl rfl rfl rfl ⟨rfl, rfl, rfl, rfl, rfl⟩ rfl rfl rfl rfl rfl (by kernel_rfl) Try.func3 (by kernel_rfl)
    (of_decide_eq_true (by kernel_rfl)) (by unfold Func.isWrapper; first | (rw [if_pos (by decide +kernel)]; kernel_rfl) | (rw [if_neg (by decide +kernel)]; exact ⟨rfl, rfl⟩))
    (fun os started H enc _ => lifted os started H enc)

theorem proved : Rows.FnExactPlayerOkSaid := over
end FnExactPlayerOk
end Go.Proofs.Ytchofialljhojaa
