/-
  'FnExactPieceCheck' returns true, for all arguments: the program's PieceCheck answers what the reference's does.
  Conditions: the library's table of powers of ten reads as its text lays it (tied by the card).
-/
import Derived.Test.YtjhgcppjpolamaaDoorPXf
import Derived.Test.YtjhgcppjpolamaaDoorPXt
namespace Go.Proofs.YtjhgcppjpolamaaDoor
open Go.RowKit Rg
set_option linter.unusedVariables false
set_option linter.unusedSimpArgs false

set_option maxHeartbeats 1000000 in
theorem lawPieceCheckX (root many at_ : Int) (s : ByteArray) (A : Option Addr) (n c : Nat) (p : List Int) (w : World) (hn : n = p.length) (hc : n ≤ c) (hcm : c ≤ maxLen) (hs : Sl encI 1 w 0 w.heap.size A p) (hp : ∀ x ∈ p, I64 x) (ht : Tab w) (hsz : s.size ≤ maxLen) :
    Calls Tryd.prog 3 #[.int .i64 root, .int .i64 many, .int .i64 at_, .string s, .slice A n c] w fun e w' => e = .returned (.bool true) ∧ Below w.heap.size w w' := by
  unfold maxLen at hsz
  have hn' := hide hn
  clear hn
  by_cases hb1 : 1048576 < s.size
  · have d1 : decide (1048576 < (s.size : Int)) = true := by simp only [decide_eq_true_eq]; omega
    go_enter Tryd.func3, Tryd.ntmps3
    go_wp2
    go_ret
    exact ⟨rfl, Below.refl _ _⟩
  · have d1 : decide (1048576 < (s.size : Int)) = false := by simp only [decide_eq_false_iff_not]; omega
    by_cases hb2 : 1048576 < n
    · have d2 : decide (1048576 < (n : Int)) = true := by simp only [decide_eq_true_eq]; omega
      go_enter Tryd.func3, Tryd.ntmps3
      go_wp2
      go_ret
      exact ⟨rfl, Below.refl _ _⟩
    · have d2 : decide (1048576 < (n : Int)) = false := by simp only [decide_eq_false_iff_not]; omega
      go_enter Tryd.func3, Tryd.ntmps3
      go_wp2_with fail
      refine (toIntS_c A n c 0 w.heap.size p w hn'.out (by omega) hs (Nat.le_refl _)).mono ?_
      rintro e w1 ⟨v1, rfl, ho1, hB1⟩
      obtain ⟨A1, c1, rfl, h11, h12, hs1⟩ := ho1.sl encI_len
      have hl1 : Hid (p.length ≤ 1048576) := hide (by have := hn'.out; omega)
      go_wp2_with fail
      refine (specPieceCheck_c root many at_ s A1 _ c1 _ _ p w1 rfl h11 h12 hl1.out hs1 (Nat.le_refl _) hp).mono ?_
      rintro e w2 ⟨rfl, hb2⟩
      have hB2 := hB1.trans (hb2.mono hB1.size)
      go_wp2_with fail
      refine (toIntS_c A n c 0 w.heap.size p w2 hn'.out (by omega) (hs.below hB2 (Nat.le_refl _)) hB2.size).mono ?_
      rintro e w3 ⟨v3, rfl, ho3, hb3⟩
      have hB3 := hB2.trans (hb3.mono hB2.size)
      obtain ⟨A3, c3, rfl, h31, h32, hs3⟩ := ho3.sl encI_len
      go_wp2_with fail
      refine (PieceCheck_c root many at_ s A3 _ c3 _ _ p w3 rfl h31 h32 hl1.out hs3 (Nat.le_refl _) hp (ht.below hB3)).mono ?_
      rintro e w4 ⟨rfl, hb4⟩
      have hB4 := hB3.trans (hb4.mono hB3.size)
      have d3 : (chkR root many at_ s p != chkR root many at_ s p) = false := by simp
      have ho4 := ho3.below hb4 (Nat.le_refl _)
      go_wp2_with fail
      refine (toIntS_c A n c 0 w.heap.size p w4 hn'.out (by omega) (hs.below hB4 (Nat.le_refl _)) hB4.size).mono ?_
      rintro e w5 ⟨v5, rfl, ho5, hb5⟩
      have hB5 := hB4.trans (hb5.mono hB4.size)
      obtain ⟨A5, c5, rfl, _, _, _⟩ := ho5.form
      go_wp2_with fail
      refine (eqSameI_c (ho4.below hb5 (Nat.le_refl _)) ho5 (by have := hl1.out; omega)).mono ?_
      rintro e w6 ⟨rfl, hb6⟩
      have hB6 := hB5.trans (hb6.mono hB5.size)
      go_wp2
      go_ret
      exact ⟨rfl, hB6⟩

/-! ### The row of 'laws.FnExactPieceCheck' -/
namespace FnExactPieceCheck
open Go.ChangeShapes Go.WideShapes Go.ChangeAt Go.RowKit
open Go.ChangeMaps (open_string shut_string)
theorem own : ownKnob Tryd.prog.godebug = none := by kernel_rfl
theorem laidOut : laidOutB Tryd.prog = true := by kernel_rfl

theorem door_met (os : Os) (args : Array Value) : laidMetH Tryd.prog Rows.fnExactPieceCheckRow.laid ((World.doorLaid Tryd.prog 24 os).forCall (fun _ _ => 0) ⟨#[], args, []⟩).memory :=
  laidMetH_of_parts3 (fuel := 8) (laidMet_of_run' 8 (by kernel_rfl) (by kernel_rfl)) (by kernel_rfl) (by kernel_rfl)

set_option maxRecDepth 100000 in
set_option maxHeartbeats 1000000 in
theorem lifted (os : Os) (started : os.Started) (H : Type) (enc : TypeId × Value → H) :
    ReturnsInHanded {} Tryd.checked os 3 .any (fun w args => (Rows.fnExactPieceCheckSpec.pre enc Tryd.prog Tryd.f3 [] false w args ∧ laidMetH Tryd.prog Rows.fnExactPieceCheckRow.laid w) ∧ sizedMet enc Tryd.prog Tryd.f3 (OpenSpec.ofChange Rows.fnExactPieceCheckSpec) false w args)
      (Rows.fnExactPieceCheckSpec.post enc Tryd.prog Tryd.f3 false true false false) := by
  refine returnsInHanded_of_change_and (C := Tryd.checked) (X := fun w _ => laidMetH Tryd.prog Rows.fnExactPieceCheckRow.laid w) (fun _ _ _ hh h => h.of_heap hh) own started (by kernel_rfl) Tryd.func3
    (ChangeSpec.witness_shaped (enc := enc) (C := Tryd.checked) (os := os) (X := fun w _ => laidMetH Tryd.prog Rows.fnExactPieceCheckRow.laid w) false (World.doorLaid Tryd.prog 24 os) #[.int .i64 0, .int .i64 0, .int .i64 0, .string ⟨#[]⟩, .slice none 0 0] 8 rfl (World.shaped_of_RefB (by kernel_rfl) (by kernel_rfl)) (by kernel_rfl) (by kernel_rfl) (by kernel_rfl) (door_met os _)) ?_
  intro W base args ds gs before hval0 hW _ _ hL _
  have hT := tab_of hL
  have hval : ∀ (j : Nat) t v, Tryd.f3.params[j]? = some t → args[j]? = some v → Value.okWide Tryd.prog W .any base t v := hval0
  have hW' := hW
  obtain ⟨p, q, hA0, hV, rfl, hfz, hnd⟩ := hW
  have hA : DataW.TrodAll enc Tryd.prog W 0 (fun _ => true) true Tryd.f3.params.toList args.toList ds p := hA0
  rw [Tryd.params3] at hA hval
  obtain ⟨v0, vs0, d0, ds0, p0, q0, hargs, rfl, rfl, h0, r0⟩ := trodAll_cons hA
  obtain ⟨v1, vs1, d1, ds1, p1, q1, rfl, rfl, rfl, h1, r1⟩ := trodAll_cons r0
  obtain ⟨v2, vs2, d2, ds2, p2, q2, rfl, rfl, rfl, h2, r2⟩ := trodAll_cons r1
  obtain ⟨v3, vs3, d3, ds3, p3, q3, rfl, rfl, rfl, h3, r3⟩ := trodAll_cons r2
  obtain ⟨v4, vs4, d4, ds4, p4, q4, rfl, rfl, rfl, h4, r4⟩ := trodAll_cons r3
  obtain ⟨rfl, rfl, rfl⟩ := trodAll_nil r4
  obtain rfl : args = #[v0, v1, v2, v3, v4] := by cases args; simp_all
  obtain ⟨rfl, rfl⟩ := trodVars_none hV
  obtain ⟨a0, rfl, rfl, rfl, g0⟩ := open_int Tryd.underlying3 (hval 0 3 v0 rfl rfl) h0
  obtain ⟨a1, rfl, rfl, rfl, g1⟩ := open_int Tryd.underlying3 (hval 1 3 v1 rfl rfl) h1
  obtain ⟨a2, rfl, rfl, rfl, g2⟩ := open_int Tryd.underlying3 (hval 2 3 v2 rfl rfl) h2
  obtain ⟨a3, rfl, rfl, rfl, g3⟩ := open_string Tryd.underlying9 (hval 3 9 v3 rfl rfl) h3
  have k4 := h4
  have lt4 : ∀ x ∈ p4, x.block < W.heap.size := by obtain ⟨m, hm⟩ := k4; exact DataW.trod_lt m _ _ _ hm
  obtain ⟨A4, len4, cap4, z4, rfl, hl4, hc4, hm4, w4, g4⟩ : ∃ A len cap, ∃ xs : List Int, v4 = .slice A len cap ∧ len = xs.length ∧ len ≤ cap ∧ cap ≤ maxLen ∧ Sl encI 1 W 0 W.heap.size A xs ∧ ∀ x ∈ xs, (I64) x := by
    obtain ⟨fuel, hf⟩ := h4
    obtain ⟨a0, len0, cap0, rfl⟩ := okWide_slice Tryd.underlying22 (hval 4 22 v4 rfl rfl)
    simp only [Value.cells] at hf
    exact trod_sl (encA := encI) (sz := 1) (Good := I64) Tryd.underlying22 (by kernel_rfl) (by omega) encI_len hf (fun n cs y hy => (by obtain ⟨k, h1, _, h2⟩ := DataW.trod_int Tryd.underlying3 hy; exact ⟨k, h1, i64_wf h2⟩))
  clear hA0 hval0
  refine (lawPieceCheckX a0 a1 a2 a3 A4 len4 cap4 z4 W hl4 hc4 hm4 w4 g4 hT g3).mono fun e W' ⟨he, bel⟩ => ?_
  subst he
  exact ⟨_, rfl, _, _, _, [], _, [], hW', trodAll_mk1 (shut_bool Tryd.underlying4 _), (trodAll_cons_mk (shut_int Tryd.underlying3 g0) (trodAll_cons_mk (shut_int Tryd.underlying3 g1) (trodAll_cons_mk (shut_int Tryd.underlying3 g2) (trodAll_cons_mk (shut_string Tryd.underlying9 g3) (trodAll_cons_mk (Below.trod laidOut (by kernel_rfl) (of_decide_eq_true (by kernel_rfl)) k4 bel lt4) trodAll_mk0))))), rfl, bel.frame _, fun h => by cases h⟩

theorem over : Rows.fnExactPieceCheckRow.holds Tryd.pinned (OpenSpec.ofChange Rows.fnExactPieceCheckSpec) :=
  OpenClaim.holds_of_wide 3 Tryd.f3 rfl rfl rfl rfl rfl rfl rfl ⟨rfl, rfl, rfl, rfl, rfl⟩ rfl rfl rfl rfl rfl (by kernel_rfl) Tryd.func3 (by kernel_rfl)
    (of_decide_eq_true (by kernel_rfl)) (by unfold Func.isWrapper; first | (rw [if_pos (by decide +kernel)]; kernel_rfl) | (rw [if_neg (by decide +kernel)]; exact ⟨rfl, rfl⟩))
    (fun os started H enc _ => lifted os started H enc)

theorem proved : Rows.FnExactPieceCheckCardSaid :=
  Claim7.holds_tied_plain_at .later [] [.data, .data, .data] true (true, "d19862c03ae4b4f9715e92ab5adeec4d8d079e9b45b17422d7a145dcb681b044") false
    over (fun _ h => by cases h) (by kernel_rfl) (fun _ h => by cases h) fnExactPieceCheck_row_tie rfl ⟨rfl, rfl⟩ (by kernel_rfl) rfl
    (fun f fn hf hfn => by
      obtain rfl : f = 3 := Option.some.inj ((show Tryd.prog.funcNamed Rows.fnExactPieceCheckRow.func = some 3 by kernel_rfl).symm.trans hf) |>.symm
      obtain rfl : fn = Tryd.f3 := (Option.some.inj (Tryd.func3.symm.trans hfn)).symm
      exact ⟨by kernel_rfl, fun j t ht => by
        rw [Tryd.params3] at ht
        have hm : t ∈ [3, 3, 3, 9, 22] := by simpa using Array.mem_of_getElem? ht
        have hall : ([3, 3, 3, 9, 22].all fun u => !Tryd.prog.wantsStandIn u) = true := by kernel_rfl
        exact (show Tryd.prog.wantsStandIn t = false by simpa using List.all_eq_true.1 hall t hm)⟩)
    (by kernel_rfl)
end FnExactPieceCheck
end Go.Proofs.YtjhgcppjpolamaaDoor
