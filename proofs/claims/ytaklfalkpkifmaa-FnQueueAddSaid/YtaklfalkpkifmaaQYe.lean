/-
  'FnQueueAdd' returns true, for every code: what is added to a drawn queue is there, once, and the queue stays in order.
  Conditions: none.
-/
import Derived.Test.YtaklfalkpkifmaaQYd
import Derived.Test.YtaklfalkpkifmaaQE
namespace Go.Proofs.Ytaklfalkpkifmaa
open Go.RowKit Rg
set_option linter.unusedVariables false

theorem l13Ok2_c (A : Option Addr) (n c lo hi : Nat) (xs : List Tm) (w : World) (hn : n = xs.length) (hb : n ≤ 1048576) (hs : Sl encT 3 w lo hi A xs) (hhi : hi ≤ w.heap.size) :
    Calls Try.prog 13 #[.slice A n c] w fun e w' => e = .returned (.bool (decide (okQ xs))) ∧ Below w.heap.size w w' := specQueueOk_c A n c lo hi xs w hn hb hs hhi

set_option maxHeartbeats 4000000 in
theorem lawQueueAddD (A : Option Addr) (n c : Nat) (bs : List Int) (w : World) (hn : n = bs.length) (hc : n ≤ c) (hcm : c ≤ maxLen) (hs : Sl encU 1 w 0 w.heap.size A bs) (hb : ∀ b ∈ bs, 0 ≤ b ∧ b < 256) :
    Calls Try.prog 4 #[.slice A n c] w fun e w' => e = .returned (.bool true) ∧ Below w.heap.size w w' := by
  have hn' := hide hn
  have hb' := hide hb
  clear hn hb
  by_cases hbig : 1048576 < n
  · have d1 : decide (1048576 < (n : Int)) = true := by simp; omega
    go_enter Try.func4, Try.ntmps4
    go_wp2
    go_ret
    exact ⟨rfl, Below.refl _ _⟩
  · have d1 : decide (1048576 < (n : Int)) = false := by simp; omega
    go_enter Try.func4, Try.ntmps4
    go_wp2_with fail
    refine (DrawQueueAdd_c A n c bs w hn'.out hc hcm hs hb'.out).mono ?_
    rintro e w1 ⟨v1, q, t, rfl, hq, ho1, hB1⟩
    obtain ⟨A1, c1, rfl, hc11, hc12, hs1⟩ := ho1.sl encT_len
    have hb2 := (Below.refl w1.heap.size w1).alloc (Nat.le_refl _) (.cells #[.int .i64 t.1, .int .i64 t.2.1, .int .i64 t.2.2] 31)
    have hB2 := hB1.trans (hb2.mono hB1.size)
    have q2 := ho1.alloc (.cells #[.int .i64 t.1, .int .i64 t.2.1, .int .i64 t.2.2] 31)
    have b0 : (w1.alloc (.cells #[.int .i64 t.1, .int .i64 t.2.1, .int .i64 t.2.2] 31)).cell? ⟨w1.heap.size, 0, none⟩ = some (.int .i64 t.1) := by simp
    have b1 : (w1.alloc (.cells #[.int .i64 t.1, .int .i64 t.2.1, .int .i64 t.2.2] 31)).cell? ⟨w1.heap.size, 1, none⟩ = some (.int .i64 t.2.1) := by simp
    have b2 : (w1.alloc (.cells #[.int .i64 t.1, .int .i64 t.2.1, .int .i64 t.2.2] 31)).cell? ⟨w1.heap.size, 2, none⟩ = some (.int .i64 t.2.2) := by simp
    have hl2 : w1.heap.size < (w1.alloc (.cells #[.int .i64 t.1, .int .i64 t.2.1, .int .i64 t.2.2] 31)).heap.size := by simp
    have hbL := addL_len q t (by omega)
    have hsame : ((addL q t).2 != (addL q t).2) = false := by simp
    have hsame2 : ((addL q t).2 == (addL q t).2) = true := by simp
    have hsame3 : (decide (okQ q) != decide (okQ q)) = false := by simp
    have hsame4 : (decide (okQ q) == decide (okQ q)) = true := by simp
    go_wp2_with fail
    generalize w1.alloc (.cells #[.int .i64 t.1, .int .i64 t.2.1, .int .i64 t.2.2] 31) = w2 at *
    refine (QueueAdd_c A1 q.length c1 _ _ q t w2 rfl (by omega) hc11 hc12 (q2.slAt encT_len).2.2 (Nat.le_refl _)).mono ?_
    rintro e w3 ⟨v3, rfl, ho3, hb3⟩
    have hB3 := hB2.trans (hb3.mono hB2.size)
    have q3 := q2.below hb3 (Nat.le_refl _)
    have b0 := keepc hb3 b0
    have b1 := keepc hb3 b1
    have b2 := keepc hb3 b2
    have x3 := ho3.mono hB2.size
    obtain ⟨Ax, cx, rfl, hx1, hx2, _⟩ := x3.sl encT_len
    go_wp2_with fail
    refine (specQueueAdd_c A1 q.length c1 _ _ q t w3 rfl (by omega) (q3.slAt encT_len).2.2 (Nat.le_refl _)).mono ?_
    rintro e w4 ⟨v4, rfl, ho4, hb4⟩
    have hB4 := hB3.trans (hb4.mono hB3.size)
    have q4 := q3.below hb4 (Nat.le_refl _)
    have x4 := x3.below hb4 (Nat.le_refl _)
    have b0 := keepc hb4 b0
    have b1 := keepc hb4 b1
    have b2 := keepc hb4 b2
    have z4 := ho4.mono hB3.size
    obtain ⟨Az, cz, rfl, _, _, _⟩ := z4.form
    go_wp2_with fail
    refine (wpSame_c x4 z4 hbL).mono ?_
    rintro e w5 ⟨rfl, hb5⟩
    have hB5 := hB4.trans (hb5.mono hB4.size)
    have q5 := q4.below hb5 (Nat.le_refl _)
    have x5 := x4.below hb5 (Nat.le_refl _)
    have z5 := z4.below hb5 (Nat.le_refl _)
    have b0 := keepc hb5 b0
    have b1 := keepc hb5 b1
    have b2 := keepc hb5 b2
    go_wp2_with fail
    refine (QueueOk_c A1 q.length c1 _ _ q w5 rfl (by omega) hc11 hc12 (q5.slAt encT_len).2.2 (Nat.le_refl _)).mono ?_
    rintro e w6 ⟨rfl, hb6⟩
    have hB6 := hB5.trans (hb6.mono hB5.size)
    have q6 := q5.below hb6 (Nat.le_refl _)
    have x6 := x5.below hb6 (Nat.le_refl _)
    have z6 := z5.below hb6 (Nat.le_refl _)
    have b0 := keepc hb6 b0
    have b1 := keepc hb6 b1
    have b2 := keepc hb6 b2
    go_wp2_with fail
    refine (l13Ok2_c A1 q.length c1 _ _ q w6 rfl (by omega) (q6.slAt encT_len).2.2 (Nat.le_refl _)).mono ?_
    rintro e w7 ⟨rfl, hb7⟩
    have hB7 := hB6.trans (hb7.mono hB6.size)
    have q7 := q6.below hb7 (Nat.le_refl _)
    have x7 := x6.below hb7 (Nat.le_refl _)
    have z7 := z6.below hb7 (Nat.le_refl _)
    have b0 := keepc hb7 b0
    have b1 := keepc hb7 b1
    have b2 := keepc hb7 b2
    rcases addL_case q t with ⟨e2, hcase⟩ | ⟨e2, hok, hot, hnt, hlt, hadd⟩
    · rw [e2]
      go_wp2_with fail
      refine (wpSame_c x7 z7 hbL).mono ?_
      rintro e w8 ⟨rfl, hb8⟩
      have hB8 := hB7.trans (hb8.mono hB7.size)
      have q8 := q7.below hb8 (Nat.le_refl _)
      have x8 := x7.below hb8 (Nat.le_refl _)
      have z8 := z7.below hb8 (Nat.le_refl _)
      have b0 := keepc hb8 b0
      have b1 := keepc hb8 b1
      have b2 := keepc hb8 b2
      go_wp2_with fail
      refine (QueueOk_c A1 q.length c1 _ _ q w8 rfl (by omega) hc11 hc12 (q8.slAt encT_len).2.2 (Nat.le_refl _)).mono ?_
      rintro e w9 ⟨rfl, hb9⟩
      have hB9 := hB8.trans (hb9.mono hB8.size)
      have q9 := q8.below hb9 (Nat.le_refl _)
      have x9 := x8.below hb9 (Nat.le_refl _)
      have z9 := z8.below hb9 (Nat.le_refl _)
      have b0 := keepc hb9 b0
      have b1 := keepc hb9 b1
      have b2 := keepc hb9 b2
      go_wp2_with fail
      refine (l13Ok2_c A1 q.length c1 _ _ q w9 rfl (by omega) (q9.slAt encT_len).2.2 (Nat.le_refl _)).mono ?_
      rintro e w10 ⟨rfl, hb10⟩
      have hB10 := hB9.trans (hb10.mono hB9.size)
      have q10 := q9.below hb10 (Nat.le_refl _)
      have x10 := x9.below hb10 (Nat.le_refl _)
      have z10 := z9.below hb10 (Nat.le_refl _)
      have b0 := keepc hb10 b0
      have b1 := keepc hb10 b1
      have b2 := keepc hb10 b2
      go_wp2_with fail
      refine (QueueOk_c A1 q.length c1 _ _ q w10 rfl (by omega) hc11 hc12 (q10.slAt encT_len).2.2 (Nat.le_refl _)).mono ?_
      rintro e w11 ⟨rfl, hb11⟩
      have hB11 := hB10.trans (hb11.mono hB10.size)
      have q11 := q10.below hb11 (Nat.le_refl _)
      have x11 := x10.below hb11 (Nat.le_refl _)
      have z11 := z10.below hb11 (Nat.le_refl _)
      have b0 := keepc hb11 b0
      have b1 := keepc hb11 b1
      have b2 := keepc hb11 b2
      cases e1 : decide (okQ q)
      · go_wp2
        go_ret
        exact ⟨rfl, hB11⟩
      · have hxq : (addL q t).1 = q := by
          rcases hcase with h | h
          · exact absurd (of_decide_eq_true e1) h
          · exact h
        have hxq' := hide hxq
        have x11q : Own encT 3 31 w11 w.heap.size (.slice Ax (addL q t).1.length cx) q := by
          have := x11
          rw [hxq] at this ⊢
          exact this
        clear hxq hcase x11
        go_wp2_with fail
        refine (wpSame_c x11q q11 (by omega)).mono ?_
        rintro e w12 ⟨rfl, hb12⟩
        go_wp2
        go_ret
        exact ⟨rfl, hB11.trans (hb12.mono hB11.size)⟩
    · have hoky : okQ (addL q t).1 := addL_okQ e2
      have hly : (addL q t).1.length = q.length + 1 := addL_len1 e2
      have hty : t ∈ (addL q t).1 := (addL_mem e2).2 (.inr rfl)
      rw [e2]
      generalize (addL q t).1 = y at *
      have hndy := ((okQ_iff y).1 hoky).2.1
      obtain ⟨p, hp, hpt⟩ := List.mem_iff_getElem.1 hty
      have hpt' := hide hpt
      have hly' := hide hly
      have hind : Hid (∀ k (h : k < y.length), k ≠ p → ¬ y[k] = t) := hide (fun k h hne he => hne (nodup_inj hndy h hp (he.trans hpt.symm)))
      have hoky' := hide hoky
      have hty' := hide hty
      have hl7 : w1.heap.size < w7.heap.size := lt_of_cell b0
      clear hpt hly hty hoky hadd hndy hok hot hnt hlt e2
      go_wp2_with fail
      go_loopw [9, 10] (fun nv iv wr => ∃ k : Nat, k ≤ y.length ∧ iv = .int .i64 k ∧ nv = .int .i64 (if p < k then 1 else 0) ∧ Below w7.heap.size w7 wr) (fun _ iv _ => y.length - (intOf iv).toNat)
      case atStart => exact ⟨0, Nat.zero_le _, rfl, rfl, Below.refl _ _⟩
      case round =>
        obtain ⟨k, hk, rfl, rfl, hbr⟩ := hrel
        have xr := x7.below hbr (Nat.le_refl _)
        have b0 := keepc hbr b0
        have b1 := keepc hbr b1
        have b2 := keepc hbr b2
        have hlr : w1.heap.size < wr.heap.size := lt_of_cell b0
        by_cases hlt2 : k < y.length
        · obtain ⟨g, rfl, hlo, hbh⟩ := xr.addrAt hlt2
          obtain ⟨a1, a2, a3⟩ := xr.tm hlt2
          by_cases hkp : k = p
          · subst hkp
            rw [hpt'.out] at a1 a2 a3
            have e5 : (if k < k then (1 : Int) else 0) = 0 := by simp
            rw [e5]
            go_wp2
            refine wp_region_T (fun _ => True) [] [] [] [0, 1, 2, 3, 4, 5] (by kernel_rfl) (by kernel_rfl) (by kernel_rfl) trivial ?_; simp only [pickL, List.getElem?_cons_succ, List.getElem?_cons_zero]
            go_wp2_with (first
              | ((with_reducible refine wpT_q0 ?_ ?_ ?_ ?_); (focus rfl); (focus rfl); (focus rfl); intro K hK) | ((with_reducible refine wpT_x0 ?_ ?_ ?_); (focus rfl); (focus rfl); intro K hK) | ((with_reducible refine wpT_noL ?_ ?_); (focus (first | exact wanted_no _ _ _ rfl rfl rfl | exact wanted_un _ _ _ rfl rfl rfl)); simp only [setO, List.set_cons_succ, List.set_cons_zero]) | ((with_reducible refine wpT_q1 ?_ ?_ ?_ ?_); (focus exact wanted_yes _ _ _ rfl rfl rfl); (focus rfl); (focus rfl); intro K hK) | ((with_reducible refine wpT_x1 ?_ ?_ ?_); (focus exact wanted_yes _ _ _ rfl rfl rfl); (focus rfl); intro K hK) | ((with_reducible refine wpT_nil ?_); try dsimp only)
              | fail)
            go_roundw
            case rel => exact ⟨k + 1, by omega, by go_num, by simp, hbr.drew⟩
            case measure => simp [intOf]; omega
          · have hne := hind.out k hlt2 hkp
            have e5 : (if p < k + 1 then (1 : Int) else 0) = if p < k then 1 else 0 := by
              by_cases h : p < k
              · rw [if_pos h, if_pos (by omega)]
              · rw [if_neg h, if_neg (by omega)]
            have e5' := hide e5
            clear e5
            generalize (if p < k then (1 : Int) else 0) = nn at *
            have hne3 : ((y[k].1 == t.1) && ((y[k].2.1 == t.2.1) && (y[k].2.2 == t.2.2))) = false := by
              simp only [Bool.and_eq_false_iff, beq_eq_false_iff_ne, ne_eq]
              by_cases h1 : y[k].1 = t.1
              · by_cases h2 : y[k].2.1 = t.2.1
                · exact .inr (.inr (fun h3 => hne (Prod.ext h1 (Prod.ext h2 h3))))
                · exact .inr (.inl h2)
              · exact .inl h1
            have hne3' := hide hne3
            clear hne hne3
            cases e0 : (y[k].1 == t.1) <;> cases e1 : (y[k].2.1 == t.2.1) <;> cases e3 : (y[k].2.2 == t.2.2)
            all_goals first
              | (exfalso; have := hne3'.out; rw [e0, e1, e3] at this; exact absurd this (by decide))
              | (go_wp2
                 refine wp_region_T (fun _ => True) [] [] [] [0, 1, 2, 3, 4, 5] (by kernel_rfl) (by kernel_rfl) (by kernel_rfl) trivial ?_; simp only [pickL, List.getElem?_cons_succ, List.getElem?_cons_zero]
                 go_wp2_with (first
                   | ((with_reducible refine wpT_q0 ?_ ?_ ?_ ?_); (focus rfl); (focus rfl); (focus rfl); intro K hK) | ((with_reducible refine wpT_x0 ?_ ?_ ?_); (focus rfl); (focus rfl); intro K hK) | ((with_reducible refine wpT_noL ?_ ?_); (focus (first | exact wanted_no _ _ _ rfl rfl rfl | exact wanted_un _ _ _ rfl rfl rfl)); simp only [setO, List.set_cons_succ, List.set_cons_zero]) | ((with_reducible refine wpT_q1 ?_ ?_ ?_ ?_); (focus exact wanted_yes _ _ _ rfl rfl rfl); (focus rfl); (focus rfl); intro K hK) | ((with_reducible refine wpT_x1 ?_ ?_ ?_); (focus exact wanted_yes _ _ _ rfl rfl rfl); (focus rfl); intro K hK) | ((with_reducible refine wpT_nil ?_); try dsimp only)
                   | fail)
                 go_roundw
                 case rel => exact ⟨k + 1, by omega, by go_num, by rw [e5'.out], hbr.drew⟩
                 case measure => simp [intOf]; omega)
        · obtain rfl : k = y.length := by omega
          have e6 : (if p < y.length then (1 : Int) else 0) = 1 := by rw [if_pos hp]
          rw [e6]
          clear e6
          have hBr := hB7.trans (hbr.mono hB7.size)
          have hno := addL_no (xs := y) (t := t) (by simpa using hoky'.out) (.inr (.inl hty'.out))
          have hca := QueueAdd_c Ax y.length cx _ _ y t wr rfl hbL hx1 hx2 (xr.slAt encT_len).2.2 (Nat.le_refl _)
          rw [hno] at hca
          dsimp only at hca
          have hca' := hide hca
          clear hca hno
          go_wp2_with fail
          refine hca'.out.mono ?_
          rintro e w8 ⟨v8, rfl, ho8, hb8⟩
          have hB8 := hBr.trans (hb8.mono hBr.size)
          have x8 := xr.below hb8 (Nat.le_refl _)
          have hck := QueueOk_c Ax y.length cx _ _ y w8 rfl hbL hx1 hx2 (x8.slAt encT_len).2.2 (Nat.le_refl _)
          rw [show decide (okQ y) = true by simpa using hoky'.out] at hck
          have hck' := hide hck
          have el : ((y.length : Int) == (q.length : Int) + 1) = true := by have := hly'.out; simp; omega
          clear hck hca'
          go_wp2_with fail
          refine hck'.out.mono ?_
          rintro e w9 ⟨rfl, hb9⟩
          go_wp2
          go_ret
          exact ⟨rfl, hB8.trans (hb9.mono hB8.size)⟩

/-! ### The row of 'laws.FnQueueAdd' -/
namespace FnQueueAdd
open Go.ChangeShapes Go.WideShapes Go.ChangeAt Go.RowKit
open Go.ChangeMaps (open_string shut_string)
theorem own : ownKnob Try.prog.godebug = none := by kernel_rfl
theorem laidOut : laidOutB Try.prog = true := by kernel_rfl

set_option maxRecDepth 100000 in
theorem lifted (os : Os) (started : os.Started) (H : Type) (enc : TypeId × Value → H) :
    ReturnsInHanded {} Try.checked os 4 .any (Rows.fnQueueAddSpec.pre6 enc Try.prog Try.f4 Rows.fnQueueAddRow.domain false) (Rows.fnQueueAddSpec.post enc Try.prog Try.f4 false true false false) := by
  refine returnsInHanded_of_change (C := Try.checked) own started (by kernel_rfl) Try.func4
    (ChangeSpec.witness6 (enc := enc) (C := Try.checked) false ⟨#[], #[.slice none 0 0], []⟩ 8 (by kernel_rfl) (by kernel_rfl) (by kernel_rfl) (by kernel_rfl)) ?_
  intro W base args ds gs before hval0 hW hcnd _
  have hval : ∀ (j : Nat) t v, Try.f4.params[j]? = some t → args[j]? = some v → Value.okWide Try.prog W .any base t v := hval0
  have hW' := hW
  obtain ⟨p, q, hA0, hV, rfl, hfz, hnd⟩ := hW
  have hA : DataW.TrodAll enc Try.prog W 0 (fun _ => true) true Try.f4.params.toList args.toList ds p := hA0
  rw [Try.params4] at hA hval
  obtain ⟨v0, vs0, d0, ds0, p0, q0, hargs, rfl, rfl, h0, r0⟩ := trodAll_cons hA
  obtain ⟨rfl, rfl, rfl⟩ := trodAll_nil r0
  obtain rfl : args = #[v0] := by cases args; simp_all
  obtain ⟨rfl, rfl⟩ := trodVars_none hV
  have k0 := h0
  have lt0 : ∀ x ∈ p0, x.block < W.heap.size := by obtain ⟨m, hm⟩ := k0; exact DataW.trod_lt m _ _ _ hm
  obtain ⟨A0, len0, cap0, z0, rfl, hl0, hc0, hm0, w0, g0⟩ : ∃ A len cap, ∃ xs : List Int, v0 = .slice A len cap ∧ len = xs.length ∧ len ≤ cap ∧ cap ≤ maxLen ∧ Sl encU 1 W 0 W.heap.size A xs ∧ ∀ x ∈ xs, (fun b => 0 ≤ b ∧ b < 256) x := by
    obtain ⟨fuel, hf⟩ := h0
    obtain ⟨a0, len0, cap0, rfl⟩ := okWide_slice Try.underlying29 (hval 0 29 v0 rfl rfl)
    simp only [Value.cells] at hf
    exact trod_sl (encA := encU) (sz := 1) (Good := fun b => 0 ≤ b ∧ b < 256) Try.underlying29 (by kernel_rfl) (by omega) encU_len hf (fun n cs y hy => (by obtain ⟨k, h1, _, h2⟩ := DataW.trod_int Try.underlying5 hy; exact ⟨k, h1, u8_wf h2⟩))
  clear hA0 hval0
  refine (lawQueueAddD A0 len0 cap0 z0 W hl0 hc0 hm0 w0 g0).mono fun e W' ⟨he, bel⟩ => ?_
  subst he
  exact ⟨_, rfl, _, _, _, [], _, [], hW', trodAll_mk1 (shut_bool Try.underlying4 _), (trodAll_cons_mk (Below.trod laidOut (by kernel_rfl) (of_decide_eq_true (by kernel_rfl)) k0 bel lt0) trodAll_mk0), rfl, bel.frame _, fun h => by cases h⟩

theorem over : Rows.fnQueueAddRow.holds Try.pinned (OpenSpec.ofChange Rows.fnQueueAddSpec) :=
  OpenClaim.holds_of_wide 4 Try.f4 rfl rfl rfl rfl rfl rfl rfl ⟨rfl, rfl, rfl, rfl, rfl⟩ rfl rfl rfl rfl rfl (by kernel_rfl) Try.func4 (by kernel_rfl)
    (of_decide_eq_true (by kernel_rfl)) (by unfold Func.isWrapper; first | (rw [if_pos (by decide +kernel)]; kernel_rfl) | (rw [if_neg (by decide +kernel)]; exact ⟨rfl, rfl⟩))
    (fun os started H enc _ => lifted os started H enc)

theorem proved : Rows.FnQueueAddSaid := over
end FnQueueAdd
end Go.Proofs.Ytaklfalkpkifmaa
