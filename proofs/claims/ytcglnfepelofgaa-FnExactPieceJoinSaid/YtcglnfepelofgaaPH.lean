/-
  'FnExactPieceJoin' returns true, for every slice of texts: both packages' 'PieceJoin' answer alike.
  Conditions: none.
-/
import Derived.Test.YtcglnfepelofgaaPG
namespace Go.Proofs.Ytcglnfepelofgaa
open Go.RowKit Rg
set_option linter.unusedVariables false

set_option maxHeartbeats 1000000 in
theorem lawPieceJoin (A : Option Addr) (n c : Nat) (xs : List ByteArray) (w : World) (hn : n = xs.length) (hc : n ≤ c) (hcm : c ≤ maxLen) (hs : Sl encS 1 w 0 w.heap.size A xs) (hg : ∀ x ∈ xs, x.size ≤ maxLen) :
    Calls Try.prog 4 #[.slice A n c] w fun e w' => e = .returned (.bool true) ∧ Below w.heap.size w w' := by
  have hn' := hide hn
  clear hn
  have hnm : n ≤ maxLen := Nat.le_trans hc hcm
  by_cases hb : n + sumS xs ≤ 1048576
  · have hz : Hid (szS xs = 1048576 - ((n : Int) + (sumS xs : Int))) := hide (by have := hn'.out; rw [szS, if_pos (by omega), ← this])
    have hb0 : n ≤ 1048576 := by omega
    have hbx : xs.length + sumS xs ≤ 1048576 := by have := hn'.out; omega
    have d0 : decide ((1048576 : Int) - ((n : Int) + (sumS xs : Int)) < 0) = false := by simp; omega
    have q1 : ((joinR xs).2 == (joinR xs).2) = true := by simp
    go_enter Try.func4, Try.ntmps4
    go_wp2_with fail
    refine (szStringS_c A n c _ _ xs w hn'.out hnm hg hs (Nat.le_refl _)).mono ?_
    rintro e w0 ⟨rfl, rfl⟩
    rw [hz.out]
    go_wp2_with fail
    refine (toStringS_c A n c _ _ xs w hn'.out hb0 hs (Nat.le_refl _)).mono ?_
    rintro e w1 ⟨v1, rfl, ho1, hB1⟩
    obtain ⟨A1, c1, rfl, h11, h12, hs1⟩ := ho1.sl encS_len
    go_wp2_with fail
    refine (specPieceJoin_c A1 _ c1 _ _ xs w1 rfl hbx hs1 (Nat.le_refl _)).mono ?_
    rintro e w1' ⟨rfl, rfl⟩
    go_wp2_with fail
    refine (toStringS_c A n c 0 _ xs w1 hn'.out hb0 (hs.below hB1 (Nat.le_refl _)) hB1.size).mono ?_
    rintro e w2 ⟨v2, rfl, ho2, hb2⟩
    have hB2 : Below w.heap.size w w2 := hB1.trans (hb2.mono hB1.size)
    obtain ⟨A2, c2, rfl, h21, h22, hs2⟩ := ho2.sl encS_len
    go_wp2_with fail
    refine (PieceJoin_c A2 _ c2 _ _ xs w2 rfl hbx h21 hs2 (Nat.le_refl _)).mono ?_
    rintro e w3 ⟨rfl, hb3⟩
    have hB3 : Below w.heap.size w w3 := hB2.trans (hb3.mono hB2.size)
    have ho23 := ho2.below hb3 (Nat.le_refl _)
    go_wp2_with fail
    refine (toStringS_c A n c 0 _ xs w3 hn'.out hb0 (hs.below hB3 (Nat.le_refl _)) hB3.size).mono ?_
    rintro e w4 ⟨v4, rfl, ho4, hb4⟩
    have hB4 : Below w.heap.size w w4 := hB3.trans (hb4.mono hB3.size)
    obtain ⟨A4, c4, rfl, h41, h42, hs4⟩ := ho4.sl encS_len
    have ho24 := ho23.below hb4 (Nat.le_refl _)
    obtain ⟨_, _, hs24⟩ := ho24.slAt encS_len
    have he := eqStringS_c A2 A4 _ _ c2 c4 _ _ _ _ xs xs w4 rfl rfl (by omega) (by omega) hs24 hs4 (Nat.le_refl _) (Nat.le_refl _)
    simp only [decide_true] at he
    go_wp2_with fail
    refine he.mono ?_
    rintro e w5 ⟨rfl, hb5⟩
    go_wp2
    go_ret
    exact ⟨rfl, hB4.trans (hb5.mono hB4.size)⟩
  · have hz : Hid (szS xs = -1) := hide (by have := hn'.out; rw [szS, if_neg (by omega)])
    go_enter Try.func4, Try.ntmps4
    go_wp2_with fail
    refine (szStringS_c A n c _ _ xs w hn'.out hnm hg hs (Nat.le_refl _)).mono ?_
    rintro e w0 ⟨rfl, rfl⟩
    rw [hz.out]
    go_wp2
    go_ret
    exact ⟨rfl, Below.refl _ _⟩

/-! ### The row of 'laws.FnExactPieceJoin' -/
namespace FnExactPieceJoin
open Go.ChangeShapes Go.WideShapes Go.ChangeAt Go.RowKit
open Go.ChangeMaps (open_string shut_string)
theorem own : ownKnob Try.prog.godebug = none := by kernel_rfl
theorem laidOut : laidOutB Try.prog = true := by kernel_rfl

set_option maxRecDepth 100000 in
theorem lifted (os : Os) (started : os.Started) (H : Type) (enc : TypeId × Value → H) :
    ReturnsInHanded {} Try.checked os 4 .any (Rows.fnExactPieceJoinSpec.pre6 enc Try.prog Try.f4 Rows.fnExactPieceJoinRow.domain false) (Rows.fnExactPieceJoinSpec.post enc Try.prog Try.f4 false true false false) := by
  refine returnsInHanded_of_change (C := Try.checked) own started (by kernel_rfl) Try.func4
    (ChangeSpec.witness6 (enc := enc) (C := Try.checked) false ⟨#[], #[.slice none 0 0], []⟩ 8 (by kernel_rfl) (by kernel_rfl) (by kernel_rfl) (by kernel_rfl)) ?_
  intro W base args ds gs before hval0 hW hcnd _
  have hval : ∀ (j : Nat) t v, Try.f4.params[j]? = some t → args[j]? = some v → Value.okWide Try.prog W .any base t v := hval0
  have hW' := hW
  obtain ⟨p, q, hA0, hV, rfl, hfz, hnd⟩ := hW
  have hA : DataW.TrodAll enc Try.prog W 0 (fun _ => true) true Try.f4.params.toList args.toList ds p := hA0
  rw [Try.params4] at hA hval
  obtain ⟨v0, vs0, d0, ds0, p0, q0, hargs, rfl, rfl, h0, r0⟩ := trodAll_cons hA
  obtain ⟨rfl, rfl, rfl⟩ := trodAll_nil r0
  obtain rfl : args = #[v0] := by cases args; simp_all
  obtain ⟨rfl, rfl⟩ := trodVars_none hV
  have k0 := h0
  have lt0 : ∀ x ∈ p0, x.block < W.heap.size := by obtain ⟨m, hm⟩ := k0; exact DataW.trod_lt m _ _ _ hm
  obtain ⟨A0, len0, cap0, z0, rfl, hl0, hc0, hm0, w0, g0⟩ : ∃ A len cap, ∃ xs : List ByteArray, v0 = .slice A len cap ∧ len = xs.length ∧ len ≤ cap ∧ cap ≤ maxLen ∧ Sl encS 1 W 0 W.heap.size A xs ∧ ∀ x ∈ xs, (fun x => x.size ≤ maxLen) x := by
    obtain ⟨fuel, hf⟩ := h0
    obtain ⟨a0, len0, cap0, rfl⟩ := okWide_slice Try.underlying22 (hval 0 22 v0 rfl rfl)
    simp only [Value.cells] at hf
    exact trod_sl (encA := encS) (sz := 1) (Good := fun x => x.size ≤ maxLen) Try.underlying22 (by kernel_rfl) (by omega) encS_len hf (fun n cs y hy => (by obtain ⟨s, h1, _, h2⟩ := DataW.trod_string Try.underlying9 hy; exact ⟨s, h1, h2⟩))
  clear hA0 hval0
  refine (lawPieceJoin A0 len0 cap0 z0 W hl0 hc0 hm0 w0 g0).mono fun e W' ⟨he, bel⟩ => ?_
  subst he
  exact ⟨_, rfl, _, _, _, [], _, [], hW', trodAll_mk1 (shut_bool Try.underlying4 _), (trodAll_cons_mk (Below.trod laidOut (by kernel_rfl) (of_decide_eq_true (by kernel_rfl)) k0 bel lt0) trodAll_mk0), rfl, bel.frame _, fun h => by cases h⟩

theorem over : Rows.fnExactPieceJoinRow.holds Try.pinned (OpenSpec.ofChange Rows.fnExactPieceJoinSpec) :=
  OpenClaim.holds_of_wide 4 Try.f4 rfl rfl rfl rfl rfl rfl rfl ⟨rfl, rfl, rfl, rfl, rfl⟩ rfl rfl rfl rfl rfl (by kernel_rfl) Try.func4 (by kernel_rfl)
    (of_decide_eq_true (by kernel_rfl)) (by unfold Func.isWrapper; first | (rw [if_pos (by decide +kernel)]; kernel_rfl) | (rw [if_neg (by decide +kernel)]; exact ⟨rfl, rfl⟩))
    (fun os started H enc _ => lifted os started H enc)

theorem proved : Rows.FnExactPieceJoinSaid := over
end FnExactPieceJoin
end Go.Proofs.Ytcglnfepelofgaa
