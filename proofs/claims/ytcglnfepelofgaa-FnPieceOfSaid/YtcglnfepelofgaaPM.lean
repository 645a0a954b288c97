/-
  'FnPieceOf' returns true, for every code: pieces of a drawn text are joined again, and are as many as must be.
  Conditions: none.
-/
import Derived.Test.YtcglnfepelofgaaPL
import Derived.Test.YtcglnfepelofgaaPG
namespace Go.Proofs.Ytcglnfepelofgaa
open Go.RowKit Rg
set_option linter.unusedVariables false

theorem cut_join (s : ByteArray) (k : Nat) (h : k ≤ s.size) : s.extract 0 k ++ s.extract k s.size = s := by
  apply ba_ext
  have h1 : (s.extract 0 k ++ s.extract k s.size).data = s.data.extract 0 k ++ s.data.extract k s.data.size := by
    rw [ByteArray.data_append, ByteArray.data_extract, ByteArray.data_extract]; rfl
  rw [h1, Array.extract_append_extract]
  simp
  exact .inr (Nat.le_max_right _ _)
theorem cat_pcs (m : Nat) : ∀ s : ByteArray, s.size = m → catS (pcs s) = s := by
  induction m using Nat.strongRecOn with
  | _ m ih =>
    intro s hm
    by_cases h : 12 < s.size
    · rw [pcs_more h]
      show s.extract 0 12 ++ catS (pcs (s.extract 12 s.size)) = s
      rw [ih (s.extract 12 s.size).size (by simp; omega) _ rfl]
      exact cut_join s 12 (by omega)
    · rw [pcs_last h]
      exact append_empty s
theorem pcs_pos (s : ByteArray) : 0 < (pcs s).length := by
  by_cases h : 12 < s.size
  · rw [pcs_more h]; simp
  · rw [pcs_last h]; simp
theorem pieces_small {s : ByteArray} (h : ¬ 192 < s.size) : pieces s = pcs s := by rw [pieces, if_neg h]
theorem okP_pieces {s : ByteArray} (h : ¬ 192 < s.size) : okP (pieces s) ∧ catS (pieces s) = s := by
  have h1 : catS (pieces s) = s := by rw [pieces_small h]; exact cat_pcs _ s rfl
  exact ⟨(okP_iff _).2 ⟨by rw [pieces_small h]; exact pcs_pos s, by rw [h1]⟩, h1⟩
theorem len_pieces {s : ByteArray} (h : ¬ 192 < s.size) (hne : ¬ (pieces s).length = 1) : (((pieces s).length : Int) == ((s.size : Int) + 12 - 1) / 12) = true := by
  have h1 := cat_len (pieces s) (by rw [pieces_small h]; exact (fits_pcs _ s rfl).1)
  rw [(okP_pieces h).2, if_neg hne] at h1
  have := pcs_pos s
  rw [← pieces_small h] at this
  simp
  omega
theorem joinR_pieces {s : ByteArray} (h : ¬ 192 < s.size) : joinR (pieces s) = (s, true) := by
  obtain ⟨h1, h2⟩ := okP_pieces h
  rw [joinR, if_pos h1, h2]

set_option maxHeartbeats 4000000 in
theorem lawPieceOfD (A : Option Addr) (n c : Nat) (bs : List Int) (w : World) (hn : n = bs.length) (hc : n ≤ c) (hcm : c ≤ maxLen) (hs : Sl encU 1 w 0 w.heap.size A bs) (hb : ∀ b ∈ bs, 0 ≤ b ∧ b < 256) :
    Calls Try.prog 5 #[.slice A n c] w fun e w' => e = .returned (.bool true) ∧ Below w.heap.size w w' := by
  have hn' := hide hn
  have hb' := hide hb
  clear hn hb
  by_cases hbig : 1048576 < n
  · have d1 : decide (1048576 < (n : Int)) = true := by simp; omega
    go_enter Try.func5, Try.ntmps5
    go_wp2
    go_ret
    exact ⟨rfl, Below.refl _ _⟩
  · have d1 : decide (1048576 < (n : Int)) = false := by simp; omega
    go_enter Try.func5, Try.ntmps5
    go_wp2_with fail
    refine (DrawPieceOf_c A n c bs w hn'.out hc hcm hs hb'.out).mono ?_
    rintro e w1 ⟨s, rfl, hsz, hB1⟩
    have hbL := pieces_len2 s
    have hsum := sum_pieces s
    go_wp2_with fail
    refine (PieceOf_c s w1 (by omega)).mono ?_
    rintro e w2 ⟨v2, rfl, ho2', hb2⟩
    have hB2 := hB1.trans (hb2.mono hB1.size)
    have ho2 := ho2'.mono hB1.size
    obtain ⟨A2, c2, rfl, hc21, hc22, _⟩ := ho2.sl encS_len
    go_wp2_with fail
    refine (specPieceOf_c s w2 (by omega)).mono ?_
    rintro e w3 ⟨v3, rfl, ho3, hb3⟩
    have hB3 := hB2.trans (hb3.mono hB2.size)
    have hx3 := ho2.below hb3 (Nat.le_refl _)
    obtain ⟨A3, c3, rfl, _, _, _⟩ := ho3.form
    go_wp2_with fail
    refine (wpSameS_c hx3 ho3 (by omega)).mono ?_
    rintro e w4 ⟨rfl, hb4⟩
    have hB4 := hB3.trans (hb4.mono hB3.size)
    have hx4 := hx3.below hb4 (Nat.le_refl _)
    clear ho2' ho2 ho3 hx3 hb2 hb3 hb4
    by_cases h192 : 192 < s.size
    · have hnil : pieces s = [] := by rw [pieces, if_pos h192]
      have d4 : decide (192 < (s.size : Int)) = true := by simp; omega
      have hnil' := hide hnil
      rw [hnil] at hx4
      rw [hnil]
      clear hnil
      go_wp2_with fail
      refine (specPieceOf_c s w4 (by omega)).mono ?_
      rintro e w5 ⟨v5, rfl, ho5, hb5⟩
      rw [hnil'.out] at ho5
      have hB5 := hB4.trans (hb5.mono hB4.size)
      have hx5 := hx4.below hb5 (Nat.le_refl _)
      obtain ⟨A5, c5, rfl, _, _, _⟩ := ho5.form
      go_wp2_with fail
      refine (wpSameS_c hx5 ho5 (by simp)).mono ?_
      rintro e w6 ⟨rfl, hb6⟩
      go_wp2
      go_ret
      exact ⟨rfl, hB5.trans (hb6.mono hB5.size)⟩
    · have hpos : 0 < (pieces s).length := by rw [pieces_small h192]; exact pcs_pos s
      have d2 : (((pieces s).length : Int) == 0) = false := by simp only [beq_eq_false_iff_ne, ne_eq]; omega
      have hj := joinR_pieces h192
      have hc1 := PieceJoin_c A2 (pieces s).length c2 _ _ (pieces s) w4 rfl (by omega) hc21 (hx4.slAt encS_len).2.2 (Nat.le_refl _)
      rw [hj] at hc1
      dsimp only at hc1
      have hc1' := hide hc1
      have hl := len_pieces h192
      have hl' := hide hl
      clear hc1 hj hl
      go_wp2_with fail
      refine hc1'.out.mono ?_
      rintro e w5 ⟨rfl, hb5⟩
      have hB5 := hB4.trans (hb5.mono hB4.size)
      by_cases h1 : (pieces s).length = 1
      · have d5 : (((pieces s).length : Int) == 1) = true := by simp only [beq_iff_eq]; omega
        clear h1
        go_wp2
        go_ret
        exact ⟨rfl, hB5⟩
      · have d5 : (((pieces s).length : Int) == 1) = false := by simp only [beq_eq_false_iff_ne, ne_eq]; omega
        have d6 := hl'.out h1
        clear h1
        go_wp2
        go_ret
        exact ⟨rfl, hB5⟩

/-! ### The row of 'laws.FnPieceOf' -/
namespace FnPieceOf
open Go.ChangeShapes Go.WideShapes Go.ChangeAt Go.RowKit
open Go.ChangeMaps (open_string shut_string)
theorem own : ownKnob Try.prog.godebug = none := by kernel_rfl
theorem laidOut : laidOutB Try.prog = true := by kernel_rfl

set_option maxRecDepth 100000 in
theorem lifted (os : Os) (started : os.Started) (H : Type) (enc : TypeId × Value → H) :
    ReturnsInHanded {} Try.checked os 5 .any (Rows.fnPieceOfSpec.pre6 enc Try.prog Try.f5 Rows.fnPieceOfRow.domain false) (Rows.fnPieceOfSpec.post enc Try.prog Try.f5 false true false false) := by
  refine returnsInHanded_of_change (C := Try.checked) own started (by kernel_rfl) Try.func5
    (ChangeSpec.witness6 (enc := enc) (C := Try.checked) false ⟨#[], #[.slice none 0 0], []⟩ 8 (by kernel_rfl) (by kernel_rfl) (by kernel_rfl) (by kernel_rfl)) ?_
  intro W base args ds gs before hval0 hW hcnd _
  have hval : ∀ (j : Nat) t v, Try.f5.params[j]? = some t → args[j]? = some v → Value.okWide Try.prog W .any base t v := hval0
  have hW' := hW
  obtain ⟨p, q, hA0, hV, rfl, hfz, hnd⟩ := hW
  have hA : DataW.TrodAll enc Try.prog W 0 (fun _ => true) true Try.f5.params.toList args.toList ds p := hA0
  rw [Try.params5] at hA hval
  obtain ⟨v0, vs0, d0, ds0, p0, q0, hargs, rfl, rfl, h0, r0⟩ := trodAll_cons hA
  obtain ⟨rfl, rfl, rfl⟩ := trodAll_nil r0
  obtain rfl : args = #[v0] := by cases args; simp_all
  obtain ⟨rfl, rfl⟩ := trodVars_none hV
  have k0 := h0
  have lt0 : ∀ x ∈ p0, x.block < W.heap.size := by obtain ⟨m, hm⟩ := k0; exact DataW.trod_lt m _ _ _ hm
  obtain ⟨A0, len0, cap0, z0, rfl, hl0, hc0, hm0, w0, g0⟩ : ∃ A len cap, ∃ xs : List Int, v0 = .slice A len cap ∧ len = xs.length ∧ len ≤ cap ∧ cap ≤ maxLen ∧ Sl encU 1 W 0 W.heap.size A xs ∧ ∀ x ∈ xs, (fun b => 0 ≤ b ∧ b < 256) x := by
    obtain ⟨fuel, hf⟩ := h0
    obtain ⟨a0, len0, cap0, rfl⟩ := okWide_slice Try.underlying31 (hval 0 31 v0 rfl rfl)
    simp only [Value.cells] at hf
    exact trod_sl (encA := encU) (sz := 1) (Good := fun b => 0 ≤ b ∧ b < 256) Try.underlying31 (by kernel_rfl) (by omega) encU_len hf (fun n cs y hy => (by obtain ⟨k, h1, _, h2⟩ := DataW.trod_int Try.underlying5 hy; exact ⟨k, h1, u8_wf h2⟩))
  clear hA0 hval0
  refine (lawPieceOfD A0 len0 cap0 z0 W hl0 hc0 hm0 w0 g0).mono fun e W' ⟨he, bel⟩ => ?_
  subst he
  exact ⟨_, rfl, _, _, _, [], _, [], hW', trodAll_mk1 (shut_bool Try.underlying4 _), (trodAll_cons_mk (Below.trod laidOut (by kernel_rfl) (of_decide_eq_true (by kernel_rfl)) k0 bel lt0) trodAll_mk0), rfl, bel.frame _, fun h => by cases h⟩

theorem over : Rows.fnPieceOfRow.holds Try.pinned (OpenSpec.ofChange Rows.fnPieceOfSpec) :=
  OpenClaim.holds_of_wide 5 Try.f5 rfl rfl rfl rfl rfl rfl rfl ⟨rfl, rfl, rfl, rfl, rfl⟩ rfl rfl rfl rfl rfl (by kernel_rfl) Try.func5 (by kernel_rfl)
    (of_decide_eq_true (by kernel_rfl)) (by unfold Func.isWrapper; first | (rw [if_pos (by decide +kernel)]; kernel_rfl) | (rw [if_neg (by decide +kernel)]; exact ⟨rfl, rfl⟩))
    (fun os started H enc _ => lifted os started H enc)

theorem proved : Rows.FnPieceOfSaid := over
end FnPieceOf
end Go.Proofs.Ytcglnfepelofgaa
