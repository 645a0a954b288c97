/-
  'FnPieceJoin' returns true, for every code: what is joined of drawn pieces is those pieces again.
  Conditions: none.
-/
import Derived.Test.YtcglnfepelofgaaPL
import Derived.Test.YtcglnfepelofgaaPG
namespace Go.Proofs.Ytcglnfepelofgaa
open Go.RowKit Rg
set_option linter.unusedVariables false

set_option maxHeartbeats 4000000 in
theorem lawPieceJoinD (A : Option Addr) (n c : Nat) (bs : List Int) (w : World) (hn : n = bs.length) (hc : n ≤ c) (hcm : c ≤ maxLen) (hs : Sl encU 1 w 0 w.heap.size A bs) (hb : ∀ b ∈ bs, 0 ≤ b ∧ b < 256) :
    Calls Try.prog 6 #[.slice A n c] w fun e w' => e = .returned (.bool true) ∧ Below w.heap.size w w' := by
  have hn' := hide hn
  have hb' := hide hb
  clear hn hb
  by_cases hbig : 1048576 < n
  · have d1 : decide (1048576 < (n : Int)) = true := by simp; omega
    go_enter Try.func6, Try.ntmps6
    go_wp2
    go_ret
    exact ⟨rfl, Below.refl _ _⟩
  · have d1 : decide (1048576 < (n : Int)) = false := by simp; omega
    go_enter Try.func6, Try.ntmps6
    go_wp2_with fail
    refine (DrawPieceJoin_c A n c bs w hn'.out hc hcm hs hb'.out).mono ?_
    rintro e w1 ⟨v1, xs, rfl, hxl, hsum, ho1, hB1⟩
    obtain ⟨A1, c1, rfl, hc11, hc12, hs1⟩ := ho1.sl encS_len
    by_cases hok : okP xs
    · have hj : joinR xs = (catS xs, true) := by rw [joinR, if_pos hok]
      have hp := hide ((okP_iff xs).1 hok).2
      have hsz : Hid ((catS xs).size ≤ 1000) := hide (by rw [cat_size]; exact hsum)
      have hc1 := PieceJoin_c A1 xs.length c1 _ _ xs w1 rfl (by omega) hc11 hs1 (Nat.le_refl _)
      have hc2 := fun W (h : Sl encS 1 W 0 W.heap.size A1 xs) => specPieceJoin_c A1 xs.length c1 _ _ xs W rfl (by omega) h (Nat.le_refl _)
      rw [hj] at hc1
      simp only [hj] at hc2
      dsimp only at hc1 hc2
      have hc1' := hide hc1
      have hc2' := hide hc2
      clear hc1 hc2 hj hok
      go_wp2_with fail
      refine hc1'.out.mono ?_
      rintro e w2 ⟨rfl, hb2⟩
      have hB2 := hB1.trans (hb2.mono hB1.size)
      have ho2 := ho1.below hb2 (Nat.le_refl _)
      go_wp2_with fail
      refine (hc2'.out w2 ((ho2.slAt encS_len).2.2.mono (Nat.zero_le _) (Nat.le_refl _))).mono ?_
      rintro e w3 ⟨rfl, rfl⟩
      have hpo := PieceOf_c (catS xs) w2 (by have := hsz.out; omega)
      rw [hp.out] at hpo
      have hpo' := hide hpo
      clear hpo
      go_wp2_with fail
      refine hpo'.out.mono ?_
      rintro e w4 ⟨v4, rfl, ho4, hb4⟩
      have hB4 := hB2.trans (hb4.mono hB2.size)
      have hx4 := ho2.below hb4 (Nat.le_refl _)
      obtain ⟨A4, c4, rfl, _, _, _⟩ := ho4.form
      go_wp2_with fail
      refine (wpSameS_c ho4 hx4 (by omega)).mono ?_
      rintro e w5 ⟨rfl, hb5⟩
      go_wp2
      go_ret
      exact ⟨rfl, hB4.trans (hb5.mono hB4.size)⟩
    · have hj : joinR xs = (⟨#[]⟩, false) := by rw [joinR, if_neg hok]
      have hc1 := PieceJoin_c A1 xs.length c1 _ _ xs w1 rfl (by omega) hc11 hs1 (Nat.le_refl _)
      have hc2 := fun W (h : Sl encS 1 W 0 W.heap.size A1 xs) => specPieceJoin_c A1 xs.length c1 _ _ xs W rfl (by omega) h (Nat.le_refl _)
      rw [hj] at hc1
      simp only [hj] at hc2
      dsimp only at hc1 hc2
      have hc1' := hide hc1
      have hc2' := hide hc2
      clear hc1 hc2 hj hok
      go_wp2_with fail
      refine hc1'.out.mono ?_
      rintro e w2 ⟨rfl, hb2⟩
      have hB2 := hB1.trans (hb2.mono hB1.size)
      have ho2 := ho1.below hb2 (Nat.le_refl _)
      go_wp2_with fail
      refine (hc2'.out w2 ((ho2.slAt encS_len).2.2.mono (Nat.zero_le _) (Nat.le_refl _))).mono ?_
      rintro e w3 ⟨rfl, rfl⟩
      go_wp2
      go_ret
      exact ⟨rfl, hB2⟩

/-! ### The row of 'laws.FnPieceJoin' -/
namespace FnPieceJoin
open Go.ChangeShapes Go.WideShapes Go.ChangeAt Go.RowKit
open Go.ChangeMaps (open_string shut_string)
theorem own : ownKnob Try.prog.godebug = none := by kernel_rfl
theorem laidOut : laidOutB Try.prog = true := by kernel_rfl

set_option maxRecDepth 100000 in
theorem lifted (os : Os) (started : os.Started) (H : Type) (enc : TypeId × Value → H) :
    ReturnsInHanded {} Try.checked os 6 .any (Rows.fnPieceJoinSpec.pre6 enc Try.prog Try.f6 Rows.fnPieceJoinRow.domain false) (Rows.fnPieceJoinSpec.post enc Try.prog Try.f6 false true false false) := by
  refine returnsInHanded_of_change (C := Try.checked) own started (by kernel_rfl) Try.func6
    (ChangeSpec.witness6 (enc := enc) (C := Try.checked) false ⟨#[], #[.slice none 0 0], []⟩ 8 (by kernel_rfl) (by kernel_rfl) (by kernel_rfl) (by kernel_rfl)) ?_
  intro W base args ds gs before hval0 hW hcnd _
  have hval : ∀ (j : Nat) t v, Try.f6.params[j]? = some t → args[j]? = some v → Value.okWide Try.prog W .any base t v := hval0
  have hW' := hW
  obtain ⟨p, q, hA0, hV, rfl, hfz, hnd⟩ := hW
  have hA : DataW.TrodAll enc Try.prog W 0 (fun _ => true) true Try.f6.params.toList args.toList ds p := hA0
  rw [Try.params6] at hA hval
  obtain ⟨v0, vs0, d0, ds0, p0, q0, hargs, rfl, rfl, h0, r0⟩ := trodAll_cons hA
  obtain ⟨rfl, rfl, rfl⟩ := trodAll_nil r0
  obtain rfl : args = #[v0] := by cases args; simp_all
  obtain ⟨rfl, rfl⟩ := trodVars_none hV
  have k0 := h0
  have lt0 : ∀ x ∈ p0, x.block < W.heap.size := by obtain ⟨m, hm⟩ := k0; exact DataW.trod_lt m _ _ _ hm
  obtain ⟨A0, len0, cap0, z0, rfl, hl0, hc0, hm0, w0, g0⟩ : ∃ A len cap, ∃ xs : List Int, v0 = .slice A len cap ∧ len = xs.length ∧ len ≤ cap ∧ cap ≤ maxLen ∧ Sl encU 1 W 0 W.heap.size A xs ∧ ∀ x ∈ xs, (fun b => 0 ≤ b ∧ b < 256) x := by
    obtain ⟨fuel, hf⟩ := h0
    obtain ⟨a0, len0, cap0, rfl⟩ := okWide_slice Try.underlying31 (hval 0 31 v0 rfl rfl)
    simp only [Value.cells] at hf
    exact trod_sl (encA := encU) (sz := 1) (Good := fun b => 0 ≤ b ∧ b < 256) Try.underlying31 (by kernel_rfl) (by omega) encU_len hf (fun n cs y hy => (by obtain ⟨k, h1, _, h2⟩ := DataW.trod_int Try.underlying5 hy; exact ⟨k, h1, u8_wf h2⟩))
  clear hA0 hval0
  refine (lawPieceJoinD A0 len0 cap0 z0 W hl0 hc0 hm0 w0 g0).mono fun e W' ⟨he, bel⟩ => ?_
  subst he
  exact ⟨_, rfl, _, _, _, [], _, [], hW', trodAll_mk1 (shut_bool Try.underlying4 _), (trodAll_cons_mk (Below.trod laidOut (by kernel_rfl) (of_decide_eq_true (by kernel_rfl)) k0 bel lt0) trodAll_mk0), rfl, bel.frame _, fun h => by cases h⟩

theorem over : Rows.fnPieceJoinRow.holds Try.pinned (OpenSpec.ofChange Rows.fnPieceJoinSpec) :=
  OpenClaim.holds_of_wide 6 Try.f6 rfl rfl rfl rfl rfl rfl rfl ⟨rfl, rfl, rfl, rfl, rfl⟩ rfl rfl rfl rfl rfl (by kernel_rfl) Try.func6 (by kernel_rfl)
    (of_decide_eq_true (by kernel_rfl)) (by unfold Func.isWrapper; first | (rw [if_pos (by decide +kernel)]; kernel_rfl) | (rw [if_neg (by decide +kernel)]; exact ⟨rfl, rfl⟩))
    (fun os started H enc _ => lifted os started H enc)

theorem proved : Rows.FnPieceJoinSaid := over
end FnPieceJoin
end Go.Proofs.Ytcglnfepelofgaa
