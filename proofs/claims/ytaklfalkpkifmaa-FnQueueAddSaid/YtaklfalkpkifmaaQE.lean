/-
  'FnExactQueueOk' returns true, for every slice of timed things: both packages' 'QueueOk' answer alike.
  Conditions: none.
-/
import Derived.Test.YtaklfalkpkifmaaQD
import Derived.Test.YtaklfalkpkifmaaOpen
namespace Go.Proofs.Ytaklfalkpkifmaa
open Go.RowKit Rg
set_option linter.unusedVariables false

theorem specQueueOk_c (A : Option Addr) (n c lo hi : Nat) (xs : List Tm) (w : World) (hn : n = xs.length) (hb : n ≤ 1048576) (hs : Sl encT 3 w lo hi A xs) (hhi : hi ≤ w.heap.size) :
    Calls Try.prog 13 #[.slice A n c] w fun e w' => e = .returned (.bool (decide (okQ xs))) ∧ Below w.heap.size w w' := by
  have hn' := hide hn
  clear hn
  go_enter Try.func13, Try.ntmps13
  go_wp2_with (go_at_call 35; refine (l13Ok_c A _ c lo hi xs w hn'.out hb hs hhi).mono ?_; rintro e w1 ⟨rfl, hb1⟩)
  go_ret
  exact ⟨rfl, hb1⟩

theorem lawQueueOk (A : Option Addr) (n c : Nat) (xs : List Tm) (w : World) (hn : n = xs.length) (hc : n ≤ c) (hcm : c ≤ maxLen) (hs : Sl encT 3 w 0 w.heap.size A xs) :
    Calls Try.prog 3 #[.slice A n c] w fun e w' => e = .returned (.bool true) ∧ Below w.heap.size w w' := by
  have hn' := hide hn
  clear hn
  have hnm : n ≤ maxLen := Nat.le_trans hc hcm
  by_cases hb : n ≤ 1048576
  · go_enter Try.func3, Try.ntmps3
    go_wp2_with fail
    refine (sz_c A n c w hnm).mono ?_
    rintro e w1 ⟨rfl, rfl⟩
    simp only [hb, if_true]
    go_wp2_with fail
    refine (toTimedS_c A n c 0 _ xs w hn'.out hb hs (Nat.le_refl _)).mono ?_
    rintro e w1 ⟨v1, rfl, ho1, hb1⟩
    dsimp only
    obtain ⟨A1, c1, rfl, hc1, hm1, hs1⟩ := ho1.sl encT_len
    go_wp2_with fail
    refine (specQueueOk_c A1 _ c1 _ _ xs w1 rfl (hn'.out ▸ hb) hs1 (Nat.le_refl _)).mono ?_
    rintro e w2 ⟨rfl, hb2⟩
    dsimp only
    have hb2' : Below w.heap.size w w2 := hb1.trans (hb2.mono hb1.size)
    go_wp2_with fail
    refine (toTimedS_c A n c 0 _ xs w2 hn'.out hb (hs.below hb2' (Nat.le_refl _)) hb2'.size).mono ?_
    rintro e w3 ⟨v3, rfl, ho3, hb3⟩
    dsimp only
    have hb3' : Below w.heap.size w w3 := hb2'.trans (hb3.mono hb2'.size)
    obtain ⟨A3, c3, rfl, hc3, hm3, hs3⟩ := ho3.sl encT_len
    go_wp2_with fail
    refine (QueueOk_c A3 _ c3 _ _ xs w3 rfl (hn'.out ▸ hb) hc3 hm3 hs3 (Nat.le_refl _)).mono ?_
    rintro e w4 ⟨rfl, hb4⟩
    dsimp only
    have hb4' : Below w.heap.size w w4 := hb3'.trans (hb4.mono hb3'.size)
    have hsame : (decide (okQ xs) == decide (okQ xs)) = true := by simp
    go_wp2_with fail
    refine (toTimedS_c A n c 0 _ xs w4 hn'.out hb (hs.below hb4' (Nat.le_refl _)) hb4'.size).mono ?_
    rintro e w5 ⟨v5, rfl, ho5, hb5⟩
    dsimp only
    have hb5' : Below w.heap.size w w5 := hb4'.trans (hb5.mono hb4'.size)
    obtain ⟨A5, c5, rfl, hc5, hm5, hs5⟩ := ho5.sl encT_len
    have heq : (decide (xs = xs)) = true := by simp
    go_wp2_with fail
    refine (eqTimedS_c A3 A5 _ _ c3 c5 _ _ _ _ xs xs w5 rfl rfl (hn'.out ▸ hb) (hn'.out ▸ hb) (hs3.below (hb4.trans (hb5.mono hb4.size)) (Nat.le_refl _)) hs5 ((hb4.trans (hb5.mono hb4.size)).size) (Nat.le_refl _)).mono ?_
    rintro e w6 ⟨rfl, hb6⟩
    dsimp only
    have hb6' : Below w.heap.size w w6 := hb5'.trans (hb6.mono hb5'.size)
    go_wp2_with fail
    go_ret
    exact ⟨rfl, hb6'⟩
  · go_enter Try.func3, Try.ntmps3
    go_wp2_with fail
    refine (sz_c A n c w hnm).mono ?_
    rintro e w1 ⟨rfl, rfl⟩
    simp only [hb, if_false]
    go_wp2
    go_ret
    exact ⟨rfl, Below.refl _ _⟩

/-! ### The row -/
namespace FnExactQueueOk
open Go.ChangeShapes Go.WideShapes Go.ChangeAt Go.RowKit
theorem own : ownKnob Try.prog.godebug = none := by kernel_rfl
theorem laidOut : laidOutB Try.prog = true := by kernel_rfl

set_option maxRecDepth 100000 in
theorem lifted (os : Os) (started : os.Started) (H : Type) (enc : TypeId × Value → H) :
    ReturnsInHanded {} Try.checked os 3 .any (Rows.fnExactQueueOkSpec.pre6 enc Try.prog Try.f3 Rows.fnExactQueueOkRow.domain false) (Rows.fnExactQueueOkSpec.post enc Try.prog Try.f3 false true false false) := by
  refine returnsInHanded_of_change (C := Try.checked) own started (by kernel_rfl) Try.func3
    (ChangeSpec.witness6 (enc := enc) (C := Try.checked) false ⟨#[], #[.slice none 0 0], []⟩ 8 (by kernel_rfl) (by kernel_rfl) (by kernel_rfl) (by kernel_rfl)) ?_
  intro W base args ds gs before hval0 hW hcnd _
  have hval : ∀ (j : Nat) t v, Try.f3.params[j]? = some t → args[j]? = some v → Value.okWide Try.prog W .any base t v := hval0
  have hW' := hW
  obtain ⟨p, q, hA0, hV, rfl, hfz, hnd⟩ := hW
  have hA : DataW.TrodAll enc Try.prog W 0 (fun _ => true) true Try.f3.params.toList args.toList ds p := hA0
  rw [Try.params3] at hA hval
  obtain ⟨v0, vs0, d0, ds0, p0, q0, hargs, rfl, rfl, h0, r0⟩ := trodAll_cons hA
  obtain ⟨rfl, rfl, rfl⟩ := trodAll_nil r0
  obtain rfl : args = #[v0] := by cases args; simp_all
  obtain ⟨rfl, rfl⟩ := trodVars_none hV
  have k0 := h0
  have lt0 : ∀ x ∈ p0, x.block < W.heap.size := by obtain ⟨m, hm⟩ := k0; exact DataW.trod_lt m _ _ _ hm
  obtain ⟨A0, len0, cap0, z0, rfl, hl0, hc0, hm0, w0⟩ : ∃ A len cap, ∃ xs : List Tm, v0 = .slice A len cap ∧ len = xs.length ∧ len ≤ cap ∧ cap ≤ maxLen ∧ Sl encT 3 W 0 W.heap.size A xs := by
    obtain ⟨fuel, hf⟩ := h0
    obtain ⟨a0, len0, cap0, rfl⟩ := okWide_slice Try.underlying22 (hval 0 22 v0 rfl rfl)
    simp only [Value.cells] at hf
    obtain ⟨A, l, c, xs, e1, e2, e3, e4, e5, _⟩ := trod_sl (encA := encT) (sz := 3) (Good := fun _ => True) Try.underlying22 (by kernel_rfl) (by omega) encT_len hf (fun n cs y hy => trod_int3 Try.underlying37 Try.underlying3 rfl (by kernel_rfl) (by kernel_rfl) (by kernel_rfl) hy)
    exact ⟨A, l, c, xs, e1, e2, e3, e4, e5⟩
  clear hA0 hval0
  refine (lawQueueOk A0 len0 cap0 z0 W hl0 hc0 hm0 w0).mono fun e W' ⟨he, bel⟩ => ?_
  subst he
  exact ⟨_, rfl, _, _, _, [], _, [], hW', trodAll_mk1 (shut_bool Try.underlying4 _), (trodAll_cons_mk (Below.trod laidOut (by kernel_rfl) (of_decide_eq_true (by kernel_rfl)) k0 bel lt0) trodAll_mk0), rfl, bel.frame _, fun h => by cases h⟩

theorem over : Rows.fnExactQueueOkRow.holds Try.pinned (OpenSpec.ofChange Rows.fnExactQueueOkSpec) :=
  OpenClaim.holds_of_wide 3 Try.f3 rfl rfl rfl rfl rfl rfl rfl ⟨rfl, rfl, rfl, rfl, rfl⟩ rfl rfl rfl rfl rfl (by kernel_rfl) Try.func3 (by kernel_rfl)
    (of_decide_eq_true (by kernel_rfl)) (by unfold Func.isWrapper; first | (rw [if_pos (by decide +kernel)]; kernel_rfl) | (rw [if_neg (by decide +kernel)]; exact ⟨rfl, rfl⟩))
    (fun os started H enc _ => lifted os started H enc)

theorem proved : Rows.FnExactQueueOkSaid := over
end FnExactQueueOk
end Go.Proofs.Ytaklfalkpkifmaa
