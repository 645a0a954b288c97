/-
  'FnExactPieceRoot' returns true, for all arguments: the program's PieceRoot answers what the reference's does.
  Conditions: the library's table of powers of ten reads as its text lays it (tied by the card).
-/
import Derived.Test.YtjhgcppjpolamaaDoorPXj
import Derived.Test.YtjhgcppjpolamaaDoorPXt
namespace Go.Proofs.YtjhgcppjpolamaaDoor
open Go.RowKit Rg
set_option linter.unusedVariables false
set_option linter.unusedSimpArgs false

theorem eqSameS2_c {A B : Option Addr} {n m c d lo lo' : Nat} {xs : List ByteArray} {w : World} (h : Own encS 1 9 w lo (.slice A n c) xs) (h' : Own encS 1 9 w lo' (.slice B m d) xs) (hb : xs.length ≤ 1048576) :
    Calls Tryd.prog 20 #[.slice A n c, .slice B m d] w fun e w' => e = .returned (.bool true) ∧ Below w.heap.size w w' := by
  obtain ⟨h1, _, h2⟩ := h.slAt encS_len
  obtain ⟨h3, _, h4⟩ := h'.slAt encS_len
  have := eqStringS_c A B n m c d _ _ _ _ xs xs w h1 h3 (by omega) (by omega) h2 h4 (Nat.le_refl _) (Nat.le_refl _)
  simpa using this
set_option maxHeartbeats 1000000 in
theorem lawPieceRootX (A : Option Addr) (n c : Nat) (xs : List ByteArray) (w : World) (hn : n = xs.length) (hc : n ≤ c) (hcm : c ≤ maxLen) (hs : Sl encS 1 w 0 w.heap.size A xs) (hg : ∀ x ∈ xs, x.size ≤ maxLen) (ht : Tab w) :
    Calls Tryd.prog 5 #[.slice A n c] w fun e w' => e = .returned (.bool true) ∧ Below w.heap.size w w' := by
  have hn' := hide hn
  clear hn
  have hnm : n ≤ maxLen := Nat.le_trans hc hcm
  by_cases hb : n + sumS xs ≤ 1048576
  · have hz : Hid (szS xs = 1048576 - ((n : Int) + (sumS xs : Int))) := hide (by have := hn'.out; rw [szS, if_pos (by omega), ← this])
    have hb0 : n ≤ 1048576 := by omega
    have hbx : xs.length + sumS xs ≤ 1048576 := by have := hn'.out; omega
    have hxl : Hid (xs.length ≤ 1048576) := hide (by omega)
    have d0 : decide ((1048576 : Int) - ((n : Int) + (sumS xs : Int)) < 0) = false := by simp; omega
    have d9 : (rootR xs != rootR xs) = false := by simp
    go_enter Tryd.func5, Tryd.ntmps5
    go_wp2_with fail
    refine (szStringS_c A n c _ _ xs w hn'.out hnm hg hs (Nat.le_refl _)).mono ?_
    rintro e w0 ⟨rfl, rfl⟩
    rw [hz.out]
    go_wp2_with fail
    refine (toStringS_c A n c _ _ xs w hn'.out hb0 hs (Nat.le_refl _)).mono ?_
    rintro e w1 ⟨v1, rfl, ho1, hB1⟩
    obtain ⟨A1, c1, rfl, h11, h12, hs1⟩ := ho1.sl encS_len
    go_wp2_with fail
    refine (specPieceRoot_c A1 _ c1 _ _ xs w1 rfl hxl.out hs1 (Nat.le_refl _)).mono ?_
    rintro e w2 ⟨rfl, hb2⟩
    have hB2 := hB1.trans (hb2.mono hB1.size)
    go_wp2_with fail
    refine (toStringS_c A n c 0 _ xs w2 hn'.out hb0 (hs.below hB2 (Nat.le_refl _)) hB2.size).mono ?_
    rintro e w3 ⟨v3, rfl, ho3, hb3⟩
    have hB3 : Below w.heap.size w w3 := hB2.trans (hb3.mono hB2.size)
    obtain ⟨A3, c3, rfl, h31, h32, hs3⟩ := ho3.sl encS_len
    go_wp2_with fail
    refine (PieceRoot_c A3 _ c3 _ _ xs w3 rfl hbx h31 hs3 (Nat.le_refl _) (ht.below hB3)).mono ?_
    rintro e w4 ⟨rfl, hb4⟩
    have hB4 : Below w.heap.size w w4 := hB3.trans (hb4.mono hB3.size)
    have ho34 := ho3.below hb4 (Nat.le_refl _)
    go_wp2_with fail
    refine (toStringS_c A n c 0 _ xs w4 hn'.out hb0 (hs.below hB4 (Nat.le_refl _)) hB4.size).mono ?_
    rintro e w5 ⟨v5, rfl, ho5, hb5⟩
    have hB5 : Below w.heap.size w w5 := hB4.trans (hb5.mono hB4.size)
    obtain ⟨A5, c5, rfl, h51, h52, hs5⟩ := ho5.sl encS_len
    go_wp2_with fail
    refine (eqSameS2_c (ho34.below hb5 (Nat.le_refl _)) ho5 hxl.out).mono ?_
    rintro e w6 ⟨rfl, hb6⟩
    go_wp2
    go_ret
    exact ⟨rfl, hB5.trans (hb6.mono hB5.size)⟩
  · have hz : Hid (szS xs = -1) := hide (by have := hn'.out; rw [szS, if_neg (by omega)])
    go_enter Tryd.func5, Tryd.ntmps5
    go_wp2_with fail
    refine (szStringS_c A n c _ _ xs w hn'.out hnm hg hs (Nat.le_refl _)).mono ?_
    rintro e w0 ⟨rfl, rfl⟩
    rw [hz.out]
    go_wp2
    go_ret
    exact ⟨rfl, Below.refl _ _⟩

/-! ### The row of 'laws.FnExactPieceRoot' -/
namespace FnExactPieceRoot
open Go.ChangeShapes Go.WideShapes Go.ChangeAt Go.RowKit
open Go.ChangeMaps (open_string shut_string)
theorem own : ownKnob Tryd.prog.godebug = none := by kernel_rfl
theorem laidOut : laidOutB Tryd.prog = true := by kernel_rfl

theorem door_met (os : Os) (args : Array Value) : laidMetH Tryd.prog Rows.fnExactPieceRootRow.laid ((World.doorLaid Tryd.prog 24 os).forCall (fun _ _ => 0) ⟨#[], args, []⟩).memory :=
  laidMetH_of_parts3 (fuel := 8) (laidMet_of_run' 8 (by kernel_rfl) (by kernel_rfl)) (by kernel_rfl) (by kernel_rfl)

set_option maxRecDepth 100000 in
set_option maxHeartbeats 1000000 in
theorem lifted (os : Os) (started : os.Started) (H : Type) (enc : TypeId × Value → H) :
    ReturnsInHanded {} Tryd.checked os 5 .any (fun w args => (Rows.fnExactPieceRootSpec.pre enc Tryd.prog Tryd.f5 [] false w args ∧ laidMetH Tryd.prog Rows.fnExactPieceRootRow.laid w) ∧ sizedMet enc Tryd.prog Tryd.f5 (OpenSpec.ofChange Rows.fnExactPieceRootSpec) false w args)
      (Rows.fnExactPieceRootSpec.post enc Tryd.prog Tryd.f5 false true false false) := by
  refine returnsInHanded_of_change_and (C := Tryd.checked) (X := fun w _ => laidMetH Tryd.prog Rows.fnExactPieceRootRow.laid w) (fun _ _ _ hh h => h.of_heap hh) own started (by kernel_rfl) Tryd.func5
    (ChangeSpec.witness_shaped (enc := enc) (C := Tryd.checked) (os := os) (X := fun w _ => laidMetH Tryd.prog Rows.fnExactPieceRootRow.laid w) false (World.doorLaid Tryd.prog 24 os) #[.slice none 0 0] 8 rfl (World.shaped_of_RefB (by kernel_rfl) (by kernel_rfl)) (by kernel_rfl) (by kernel_rfl) (by kernel_rfl) (door_met os _)) ?_
  intro W base args ds gs before hval0 hW _ _ hL _
  have hT := tab_of hL
  have hval : ∀ (j : Nat) t v, Tryd.f5.params[j]? = some t → args[j]? = some v → Value.okWide Tryd.prog W .any base t v := hval0
  have hW' := hW
  obtain ⟨p, q, hA0, hV, rfl, hfz, hnd⟩ := hW
  have hA : DataW.TrodAll enc Tryd.prog W 0 (fun _ => true) true Tryd.f5.params.toList args.toList ds p := hA0
  rw [Tryd.params5] at hA hval
  obtain ⟨v0, vs0, d0, ds0, p0, q0, hargs, rfl, rfl, h0, r0⟩ := trodAll_cons hA
  obtain ⟨rfl, rfl, rfl⟩ := trodAll_nil r0
  obtain rfl : args = #[v0] := by cases args; simp_all
  obtain ⟨rfl, rfl⟩ := trodVars_none hV
  have k0 := h0
  have lt0 : ∀ x ∈ p0, x.block < W.heap.size := by obtain ⟨m, hm⟩ := k0; exact DataW.trod_lt m _ _ _ hm
  obtain ⟨A0, len0, cap0, z0, rfl, hl0, hc0, hm0, w0, g0⟩ : ∃ A len cap, ∃ xs : List ByteArray, v0 = .slice A len cap ∧ len = xs.length ∧ len ≤ cap ∧ cap ≤ maxLen ∧ Sl encS 1 W 0 W.heap.size A xs ∧ ∀ x ∈ xs, (fun x => x.size ≤ maxLen) x := by
    obtain ⟨fuel, hf⟩ := h0
    obtain ⟨a0, len0, cap0, rfl⟩ := okWide_slice Tryd.underlying30 (hval 0 30 v0 rfl rfl)
    simp only [Value.cells] at hf
    exact trod_sl (encA := encS) (sz := 1) (Good := fun x => x.size ≤ maxLen) Tryd.underlying30 (by kernel_rfl) (by omega) encS_len hf (fun n cs y hy => (by obtain ⟨s, h1, _, h2⟩ := DataW.trod_string Tryd.underlying9 hy; exact ⟨s, h1, h2⟩))
  clear hA0 hval0
  refine (lawPieceRootX A0 len0 cap0 z0 W hl0 hc0 hm0 w0 g0 hT).mono fun e W' ⟨he, bel⟩ => ?_
  subst he
  exact ⟨_, rfl, _, _, _, [], _, [], hW', trodAll_mk1 (shut_bool Tryd.underlying4 _), (trodAll_cons_mk (Below.trod laidOut (by kernel_rfl) (of_decide_eq_true (by kernel_rfl)) k0 bel lt0) trodAll_mk0), rfl, bel.frame _, fun h => by cases h⟩

theorem over : Rows.fnExactPieceRootRow.holds Tryd.pinned (OpenSpec.ofChange Rows.fnExactPieceRootSpec) :=
  OpenClaim.holds_of_wide 5 Tryd.f5 rfl rfl rfl rfl rfl rfl rfl ⟨rfl, rfl, rfl, rfl, rfl⟩ rfl rfl rfl rfl rfl (by kernel_rfl) Tryd.func5 (by kernel_rfl)
    (of_decide_eq_true (by kernel_rfl)) (by unfold Func.isWrapper; first | (rw [if_pos (by decide +kernel)]; kernel_rfl) | (rw [if_neg (by decide +kernel)]; exact ⟨rfl, rfl⟩))
    (fun os started H enc _ => lifted os started H enc)

theorem proved : Rows.FnExactPieceRootCardSaid :=
  Claim7.holds_tied_plain_at .later [] [.data, .data, .data] true (true, "d19862c03ae4b4f9715e92ab5adeec4d8d079e9b45b17422d7a145dcb681b044") false
    over (fun _ h => by cases h) (by kernel_rfl) (fun _ h => by cases h) fnExactPieceRoot_row_tie rfl ⟨rfl, rfl⟩ (by kernel_rfl) rfl
    (fun f fn hf hfn => by
      obtain rfl : f = 5 := Option.some.inj ((show Tryd.prog.funcNamed Rows.fnExactPieceRootRow.func = some 5 by kernel_rfl).symm.trans hf) |>.symm
      obtain rfl : fn = Tryd.f5 := (Option.some.inj (Tryd.func5.symm.trans hfn)).symm
      exact ⟨by kernel_rfl, fun j t ht => by
        rw [Tryd.params5] at ht
        have hm : t ∈ [30] := by simpa using Array.mem_of_getElem? ht
        have hall : ([30].all fun u => !Tryd.prog.wantsStandIn u) = true := by kernel_rfl
        exact (show Tryd.prog.wantsStandIn t = false by simpa using List.all_eq_true.1 hall t hm)⟩)
    (by kernel_rfl)
end FnExactPieceRoot
end Go.Proofs.YtjhgcppjpolamaaDoor
