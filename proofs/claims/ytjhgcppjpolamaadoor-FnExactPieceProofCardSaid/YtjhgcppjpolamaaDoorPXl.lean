/-
  'FnExactPieceProof' returns true, for all arguments: the program's PieceProof answers what the reference's does, in new memory.
  Conditions: the library's table of powers of ten reads as its text lays it (tied by the card).
-/
import Derived.Test.YtjhgcppjpolamaaDoorPXk
namespace Go.Proofs.YtjhgcppjpolamaaDoor
open Go.RowKit Rg
set_option linter.unusedVariables false
set_option linter.unusedSimpArgs false

theorem wants_le : ∀ (n i : Nat), wants n i ≤ n := by
  intro n
  induction n using Nat.strongRecOn with
  | _ n ih =>
    intro i
    by_cases h : n ≤ 1
    · rw [wants_one h]; omega
    · have := ih ((n + 1) / 2) (by omega) (i / 2)
      rw [wants_up h]
      split <;> omega
theorem proofR_len (xs : List ByteArray) (i : Int) : (proofR xs i).length ≤ 16 := by
  unfold proofR
  split
  · rename_i h
    rw [besides_len _ (lvs xs) i.toNat rfl]
    have := wants_le (lvs xs).length i.toNat
    have := lvs_len xs
    have := (okP_small h.1).1
    omega
  · simp
set_option maxHeartbeats 2000000 in
theorem lawPieceProofX (A : Option Addr) (n c : Nat) (xs : List ByteArray) (at_ : Int) (w : World) (hn : n = xs.length) (hc : n ≤ c) (hcm : c ≤ maxLen) (hs : Sl encS 1 w 0 w.heap.size A xs) (hg : ∀ x ∈ xs, x.size ≤ maxLen) (ht : Tab w) :
    Calls Tryd.prog 7 #[.slice A n c, .int .i64 at_] w fun e w' => e = .returned (.bool true) ∧ Below w.heap.size w w' := by
  have hn' := hide hn
  clear hn
  have hnm : n ≤ maxLen := Nat.le_trans hc hcm
  by_cases hb : n + sumS xs ≤ 1048576
  · have hz : Hid (szS xs = 1048576 - ((n : Int) + (sumS xs : Int))) := hide (by have := hn'.out; rw [szS, if_pos (by omega), ← this])
    have hb0 : n ≤ 1048576 := by omega
    have hbx : xs.length + sumS xs ≤ 1048576 := by have := hn'.out; omega
    have hxl : Hid (xs.length ≤ 1048576) := hide (by omega)
    have d0 : decide ((1048576 : Int) - ((n : Int) + (sumS xs : Int)) < 0) = false := by simp; omega
    have hpl := hide (proofR_len xs at_)
    go_enter Tryd.func7, Tryd.ntmps7
    go_wp2_with fail
    refine (szStringS_c A n c _ _ xs w hn'.out hnm hg hs (Nat.le_refl _)).mono ?_
    rintro e w0 ⟨rfl, rfl⟩
    rw [hz.out]
    go_wp2_with fail
    refine (toStringS_c A n c _ _ xs w hn'.out hb0 hs (Nat.le_refl _)).mono ?_
    rintro e w1 ⟨v1, rfl, ho1, hB1⟩
    obtain ⟨A1, c1, rfl, h11, h12, hs1⟩ := ho1.sl encS_len
    go_wp2_with fail
    refine (specPieceProof_c A1 _ c1 _ _ xs at_ w1 rfl hxl.out hs1 (Nat.le_refl _)).mono ?_
    rintro e w2 ⟨vw, rfl, how, hb2⟩
    have hB2 := hB1.trans (hb2.mono hB1.size)
    obtain ⟨Aw, nw, cw, rfl, hnw⟩ := how.shape
    have hwl := hide how.lt
    go_wp2_with fail
    refine (toStringS_c A n c 0 _ xs w2 hn'.out hb0 (hs.below hB2 (Nat.le_refl _)) hB2.size).mono ?_
    rintro e w3 ⟨v3, rfl, ho3, hb3⟩
    have hB3 : Below w.heap.size w w3 := hB2.trans (hb3.mono hB2.size)
    obtain ⟨A3, c3, rfl, h31, h32, hs3⟩ := ho3.sl encS_len
    have hxl3 := hide ho3.lt
    have how3 := how.below hb3 (Nat.le_refl _)
    go_wp2_with fail
    refine (PieceProof_c A3 _ c3 _ _ xs at_ w3 rfl hbx h31 hs3 (Nat.le_refl _) (ht.below hB3)).mono ?_
    rintro e w4 ⟨vg, rfl, hog, hb4⟩
    have hB4 : Below w.heap.size w w4 := hB3.trans (hb4.mono hB3.size)
    obtain ⟨Ag, ng, cg, rfl, hng⟩ := hog.shape
    have hgl := hide hog.lt
    have ho34 := ho3.below hb4 (Nat.le_refl _)
    have how4 := how3.below hb4 (Nat.le_refl _)
    go_wp2_with fail
    refine (eqSameI_c hog how4 (by have := hpl.out; omega)).mono ?_
    rintro e w5 ⟨rfl, hb5⟩
    have hB5 : Below w.heap.size w w5 := hB4.trans (hb5.mono hB4.size)
    have ho35 := ho34.below hb5 (Nat.le_refl _)
    have how5 := how4.below hb5 (Nat.le_refl _)
    have hog5 := hog.below hb5 (Nat.le_refl _)
    go_wp2_with fail
    refine (toStringS_c A n c 0 _ xs w5 hn'.out hb0 (hs.below hB5 (Nat.le_refl _)) hB5.size).mono ?_
    rintro e w6 ⟨v6, rfl, ho6, hb6⟩
    have hB6 : Below w.heap.size w w6 := hB5.trans (hb6.mono hB5.size)
    obtain ⟨A6, c6, rfl, h61, h62, hs6⟩ := ho6.sl encS_len
    have ho36 := ho35.below hb6 (Nat.le_refl _)
    have how6 := how5.below hb6 (Nat.le_refl _)
    have hog6 := hog5.below hb6 (Nat.le_refl _)
    go_wp2_with fail
    refine (eqSameS2_c ho36 ho6 hxl.out).mono ?_
    rintro e w7 ⟨rfl, hb7⟩
    have hB7 : Below w.heap.size w w7 := hB6.trans (hb7.mono hB6.size)
    have ho37 := ho36.below hb7 (Nat.le_refl _)
    have how7 := how6.below hb7 (Nat.le_refl _)
    have hog7 := hog6.below hb7 (Nat.le_refl _)
    have hz12 := hb2.size
    have hz23 := hb3.size
    have hz34 := hb4.size
    have hz01 := hB1.size
    go_wp2_with fail
    refine (markStringS_c A3 _ c3 _ 1 xs w7 rfl hxl.out (by omega) (by omega) ho37).mono ?_
    rintro e w8 ⟨rfl, hx8, hon8⟩
    have hB8 : Below w.heap.size w w8 := hB7.trans (hon8.toBelow hB7.size (fun k hk => by have := (hxl3.out k hk).1; omega))
    have how8 := how7.only hon8 (Nat.le_refl _) (fun b g1 g2 => by have := (hxl3.out b g2).1; have := (hwl.out b g1).2; omega)
    have hog8 := hog7.only hon8 (Nat.le_refl _) (fun b g1 g2 => by have := (hxl3.out b g2).2; have := (hgl.out b g1).1; omega)
    have q1 : decide (((1 : Nat) : Int) + (xs.length : Int) < 0) = false := by simp only [decide_eq_false_iff_not]; omega
    have q1' : decide ((1 : Int) + (xs.length : Int) < 0) = false := by simp only [decide_eq_false_iff_not]; omega
    go_wp2_with fail
    refine (eqSameI_c hog8 how8 (by have := hpl.out; omega)).mono ?_
    rintro e w9 ⟨rfl, hb9⟩
    have hB9 : Below w.heap.size w w9 := hB8.trans (hb9.mono hB8.size)
    have how9 := how8.below hb9 (Nat.le_refl _)
    have hog9 := hog8.below hb9 (Nat.le_refl _)
    go_wp2_with fail
    refine (markIO_c hog9 (by have := hpl.out; omega)).mono ?_
    rintro e w10 ⟨rfl, hgm, hon10⟩
    have hB10 : Below w.heap.size w w10 := hB9.trans (hon10.toBelow hB9.size (fun k hk => by have := (hgl.out k hk).1; omega))
    have how10 := how9.only hon10 (Nat.le_refl _) (fun b g1 g2 => by have := (hgl.out b g2).1; have := (hwl.out b g1).2; omega)
    have hngb : Hid (ng ≤ 16) := hide (by have := hng.out; have := hpl.out; omega)
    have q2 : decide ((1 : Int) + (ng : Int) < 0) = false := by simp only [decide_eq_false_iff_not]; omega
    have q3 : ((1 : Int) + (ng : Int) != (1 : Int) + (ng : Int)) = false := by simp
    go_wp2_with fail
    refine (heldIO_c hgm (by have := hngb.out; omega)).mono ?_
    rintro e w11 ⟨rfl, hb11⟩
    have hB11 : Below w.heap.size w w11 := hB10.trans (hb11.mono hB10.size)
    have how11 := how10.below hb11 (Nat.le_refl _)
    have hgm11 := hgm.below hb11 (Nat.le_refl _)
    go_wp2_with fail
    refine (toStringS_c A n c 0 _ xs w11 hn'.out hb0 (hs.below hB11 (Nat.le_refl _)) hB11.size).mono ?_
    rintro e w12 ⟨v12, rfl, ho12, hb12⟩
    have hB12 : Below w.heap.size w w12 := hB11.trans (hb12.mono hB11.size)
    obtain ⟨A12, c12, rfl, h121, h122, hs12⟩ := ho12.sl encS_len
    have how12 := how11.below hb12 (Nat.le_refl _)
    have hgm12 := hgm11.below hb12 (Nat.le_refl _)
    go_wp2_with fail
    refine (PieceProof_c A12 _ c12 _ _ xs at_ w12 rfl hbx h121 hs12 (Nat.le_refl _) (ht.below hB12)).mono ?_
    rintro e w13 ⟨vh, rfl, hoh, hb13⟩
    have hB13 : Below w.heap.size w w13 := hB12.trans (hb13.mono hB12.size)
    obtain ⟨Ah, nh, ch, rfl, hnh⟩ := hoh.shape
    have how13 := how12.below hb13 (Nat.le_refl _)
    have hgm13 := hgm12.below hb13 (Nat.le_refl _)
    go_wp2_with fail
    refine (eqSameI_c hoh how13 (by have := hpl.out; omega)).mono ?_
    rintro e w14 ⟨rfl, hb14⟩
    have hB14 : Below w.heap.size w w14 := hB13.trans (hb14.mono hB13.size)
    have hgm14 := hgm13.below hb14 (Nat.le_refl _)
    go_wp2_with fail
    refine (heldIO_c hgm14 (by have := hngb.out; omega)).mono ?_
    rintro e w15 ⟨rfl, hb15⟩
    have hB15 : Below w.heap.size w w15 := hB14.trans (hb15.mono hB14.size)
    go_wp2
    go_ret
    exact ⟨rfl, hB15⟩
  · have hz : Hid (szS xs = -1) := hide (by have := hn'.out; rw [szS, if_neg (by omega)])
    go_enter Tryd.func7, Tryd.ntmps7
    go_wp2_with fail
    refine (szStringS_c A n c _ _ xs w hn'.out hnm hg hs (Nat.le_refl _)).mono ?_
    rintro e w0 ⟨rfl, rfl⟩
    rw [hz.out]
    go_wp2
    go_ret
    exact ⟨rfl, Below.refl _ _⟩

/-! ### The row of 'laws.FnExactPieceProof' -/
namespace FnExactPieceProof
open Go.ChangeShapes Go.WideShapes Go.ChangeAt Go.RowKit
open Go.ChangeMaps (open_string shut_string)
theorem own : ownKnob Tryd.prog.godebug = none := by kernel_rfl
theorem laidOut : laidOutB Tryd.prog = true := by kernel_rfl

theorem door_met (os : Os) (args : Array Value) : laidMetH Tryd.prog Rows.fnExactPieceProofRow.laid ((World.doorLaid Tryd.prog 24 os).forCall (fun _ _ => 0) ⟨#[], args, []⟩).memory :=
  laidMetH_of_parts3 (fuel := 8) (laidMet_of_run' 8 (by kernel_rfl) (by kernel_rfl)) (by kernel_rfl) (by kernel_rfl)

set_option maxRecDepth 100000 in
set_option maxHeartbeats 1000000 in
theorem lifted (os : Os) (started : os.Started) (H : Type) (enc : TypeId × Value → H) :
    ReturnsInHanded {} Tryd.checked os 7 .any (fun w args => (Rows.fnExactPieceProofSpec.pre enc Tryd.prog Tryd.f7 [] false w args ∧ laidMetH Tryd.prog Rows.fnExactPieceProofRow.laid w) ∧ sizedMet enc Tryd.prog Tryd.f7 (OpenSpec.ofChange Rows.fnExactPieceProofSpec) false w args)
      (Rows.fnExactPieceProofSpec.post enc Tryd.prog Tryd.f7 false true false false) := by
  refine returnsInHanded_of_change_and (C := Tryd.checked) (X := fun w _ => laidMetH Tryd.prog Rows.fnExactPieceProofRow.laid w) (fun _ _ _ hh h => h.of_heap hh) own started (by kernel_rfl) Tryd.func7
    (ChangeSpec.witness_shaped (enc := enc) (C := Tryd.checked) (os := os) (X := fun w _ => laidMetH Tryd.prog Rows.fnExactPieceProofRow.laid w) false (World.doorLaid Tryd.prog 24 os) #[.slice none 0 0, .int .i64 0] 8 rfl (World.shaped_of_RefB (by kernel_rfl) (by kernel_rfl)) (by kernel_rfl) (by kernel_rfl) (by kernel_rfl) (door_met os _)) ?_
  intro W base args ds gs before hval0 hW _ _ hL _
  have hT := tab_of hL
  have hval : ∀ (j : Nat) t v, Tryd.f7.params[j]? = some t → args[j]? = some v → Value.okWide Tryd.prog W .any base t v := hval0
  have hW' := hW
  obtain ⟨p, q, hA0, hV, rfl, hfz, hnd⟩ := hW
  have hA : DataW.TrodAll enc Tryd.prog W 0 (fun _ => true) true Tryd.f7.params.toList args.toList ds p := hA0
  rw [Tryd.params7] at hA hval
  obtain ⟨v0, vs0, d0, ds0, p0, q0, hargs, rfl, rfl, h0, r0⟩ := trodAll_cons hA
  obtain ⟨v1, vs1, d1, ds1, p1, q1, rfl, rfl, rfl, h1, r1⟩ := trodAll_cons r0
  obtain ⟨rfl, rfl, rfl⟩ := trodAll_nil r1
  obtain rfl : args = #[v0, v1] := by cases args; simp_all
  obtain ⟨rfl, rfl⟩ := trodVars_none hV
  have k0 := h0
  have lt0 : ∀ x ∈ p0, x.block < W.heap.size := by obtain ⟨m, hm⟩ := k0; exact DataW.trod_lt m _ _ _ hm
  obtain ⟨A0, len0, cap0, z0, rfl, hl0, hc0, hm0, w0, g0⟩ : ∃ A len cap, ∃ xs : List ByteArray, v0 = .slice A len cap ∧ len = xs.length ∧ len ≤ cap ∧ cap ≤ maxLen ∧ Sl encS 1 W 0 W.heap.size A xs ∧ ∀ x ∈ xs, (fun x => x.size ≤ maxLen) x := by
    obtain ⟨fuel, hf⟩ := h0
    obtain ⟨a0, len0, cap0, rfl⟩ := okWide_slice Tryd.underlying30 (hval 0 30 v0 rfl rfl)
    simp only [Value.cells] at hf
    exact trod_sl (encA := encS) (sz := 1) (Good := fun x => x.size ≤ maxLen) Tryd.underlying30 (by kernel_rfl) (by omega) encS_len hf (fun n cs y hy => (by obtain ⟨s, h1, _, h2⟩ := DataW.trod_string Tryd.underlying9 hy; exact ⟨s, h1, h2⟩))
  obtain ⟨a1, rfl, rfl, rfl, g1⟩ := open_int Tryd.underlying3 (hval 1 3 v1 rfl rfl) h1
  clear hA0 hval0
  refine (lawPieceProofX A0 len0 cap0 z0 a1 W hl0 hc0 hm0 w0 g0 hT).mono fun e W' ⟨he, bel⟩ => ?_
  subst he
  exact ⟨_, rfl, _, _, _, [], _, [], hW', trodAll_mk1 (shut_bool Tryd.underlying4 _), (trodAll_cons_mk (Below.trod laidOut (by kernel_rfl) (of_decide_eq_true (by kernel_rfl)) k0 bel lt0) (trodAll_cons_mk (shut_int Tryd.underlying3 g1) trodAll_mk0)), rfl, bel.frame _, fun h => by cases h⟩

theorem over : Rows.fnExactPieceProofRow.holds Tryd.pinned (OpenSpec.ofChange Rows.fnExactPieceProofSpec) :=
  OpenClaim.holds_of_wide 7 Tryd.f7 rfl rfl rfl rfl rfl rfl rfl ⟨rfl, rfl, rfl, rfl, rfl⟩ rfl rfl rfl rfl rfl (by kernel_rfl) Tryd.func7 (by kernel_rfl)
    (of_decide_eq_true (by kernel_rfl)) (by unfold Func.isWrapper; first | (rw [if_pos (by decide +kernel)]; kernel_rfl) | (rw [if_neg (by decide +kernel)]; exact ⟨rfl, rfl⟩))
    (fun os started H enc _ => lifted os started H enc)

theorem proved : Rows.FnExactPieceProofCardSaid :=
  Claim7.holds_tied_plain_at .later [] [.data, .data, .data] true (true, "d19862c03ae4b4f9715e92ab5adeec4d8d079e9b45b17422d7a145dcb681b044") false
    over (fun _ h => by cases h) (by kernel_rfl) (fun _ h => by cases h) fnExactPieceProof_row_tie rfl ⟨rfl, rfl⟩ (by kernel_rfl) rfl
    (fun f fn hf hfn => by
      obtain rfl : f = 7 := Option.some.inj ((show Tryd.prog.funcNamed Rows.fnExactPieceProofRow.func = some 7 by kernel_rfl).symm.trans hf) |>.symm
      obtain rfl : fn = Tryd.f7 := (Option.some.inj (Tryd.func7.symm.trans hfn)).symm
      exact ⟨by kernel_rfl, fun j t ht => by
        rw [Tryd.params7] at ht
        have hm : t ∈ [30, 3] := by simpa using Array.mem_of_getElem? ht
        have hall : ([30, 3].all fun u => !Tryd.prog.wantsStandIn u) = true := by kernel_rfl
        exact (show Tryd.prog.wantsStandIn t = false by simpa using List.all_eq_true.1 hall t hm)⟩)
    (by kernel_rfl)
end FnExactPieceProof
end Go.Proofs.YtjhgcppjpolamaaDoor
