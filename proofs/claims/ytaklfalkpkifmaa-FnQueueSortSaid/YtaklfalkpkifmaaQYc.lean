/-
  'FnQueueTill' returns true, for every code: what comes of a drawn queue till a drawn time comes in order; all others come later; none is lost.
  Conditions: none.
-/
import Derived.Test.YtaklfalkpkifmaaQYb
namespace Go.Proofs.Ytaklfalkpkifmaa
open Go.RowKit Rg
set_option linter.unusedVariables false

set_option maxHeartbeats 4000000 in
theorem lawQueueTillD (A : Option Addr) (n c : Nat) (bs : List Int) (w : World) (hn : n = bs.length) (hc : n ≤ c) (hcm : c ≤ maxLen) (hs : Sl encU 1 w 0 w.heap.size A bs) (hb : ∀ b ∈ bs, 0 ≤ b ∧ b < 256) :
    Calls Try.prog 9 #[.slice A n c] w fun e w' => e = .returned (.bool true) ∧ Below w.heap.size w w' := by
  have hn' := hide hn
  have hb' := hide hb
  clear hn hb
  by_cases hbig : 1048576 < n
  · have d1 : decide (1048576 < (n : Int)) = true := by simp; omega
    go_enter Try.func9, Try.ntmps9
    go_wp2
    go_ret
    exact ⟨rfl, Below.refl _ _⟩
  · have d1 : decide (1048576 < (n : Int)) = false := by simp; omega
    go_enter Try.func9, Try.ntmps9
    go_wp2_with fail
    refine (DrawQueueTill_c A n c bs w hn'.out hc hcm hs hb'.out).mono ?_
    rintro e w1 ⟨v1, q, at_, rfl, hq, ho1, hB1⟩
    obtain ⟨A1, c1, rfl, hc11, hc12, hs1⟩ := ho1.sl encT_len
    have hlen := tillQ_len at_ q (by omega)
    obtain ⟨hbM, hbN⟩ := hlen
    go_wp2_with fail
    refine (QueueTill_c A1 q.length c1 _ _ at_ q w1 rfl (by omega) hc11 hc12 hs1 (Nat.le_refl _)).mono ?_
    rintro e w2 ⟨v2, u2, rfl, ho2', hu2', _, hb2⟩
    have hB2 := hB1.trans (hb2.mono hB1.size)
    have r2 := ho2'.mono hB1.size
    have d2 := hu2'.mono hB1.size
    have q2 := ho1.below hb2 (Nat.le_refl _)
    obtain ⟨Ar, cr, rfl, hcr1, hcr2, hsr⟩ := r2.sl encT_len
    obtain ⟨Ad, cd, rfl, hcd1, hcd2, hsd⟩ := d2.sl encT_len
    clear ho2' hu2' hsr hsd
    go_wp2_with fail
    refine (specQueueTill_c A1 q.length c1 _ _ at_ q w2 rfl (by omega) (q2.slAt encT_len).2.2 (Nat.le_refl _)).mono ?_
    rintro e w3 ⟨v3, u3, rfl, ho3', hu3', hb3⟩
    have hB3 := hB2.trans (hb3.mono hB2.size)
    have m3 := ho3'.mono hB2.size
    have t3 := hu3'.mono hB2.size
    have q3 := q2.below hb3 (Nat.le_refl _)
    have r3 := r2.below hb3 (Nat.le_refl _)
    have d3 := d2.below hb3 (Nat.le_refl _)
    obtain ⟨Am, cm, rfl, _, _, _⟩ := m3.form
    obtain ⟨At, ct, rfl, _, _, _⟩ := t3.form
    clear ho3' hu3'
    go_wp2_with fail
    refine (wpSame_c r3 m3 hbM).mono ?_
    rintro e w4 ⟨rfl, hb4⟩
    have hB4 := hB3.trans (hb4.mono hB3.size)
    have m4 := m3.below hb4 (Nat.le_refl _)
    have t4 := t3.below hb4 (Nat.le_refl _)
    have q4 := q3.below hb4 (Nat.le_refl _)
    have r4 := r3.below hb4 (Nat.le_refl _)
    have d4 := d3.below hb4 (Nat.le_refl _)
    go_wp2_with fail
    refine (wpSame_c d4 t4 hbN).mono ?_
    rintro e w5 ⟨rfl, hb5⟩
    have hB5 := hB4.trans (hb5.mono hB4.size)
    have m5 := m4.below hb5 (Nat.le_refl _)
    have t5 := t4.below hb5 (Nat.le_refl _)
    have q5 := q4.below hb5 (Nat.le_refl _)
    have r5 := r4.below hb5 (Nat.le_refl _)
    have d5 := d4.below hb5 (Nat.le_refl _)
    go_wp2_with fail
    refine (QueueOk_c A1 q.length c1 _ _ q w5 rfl (by omega) hc11 hc12 (q5.slAt encT_len).2.2 (Nat.le_refl _)).mono ?_
    rintro e w6 ⟨rfl, hb6⟩
    have hB6 := hB5.trans (hb6.mono hB5.size)
    have m6 := m5.below hb6 (Nat.le_refl _)
    have t6 := t5.below hb6 (Nat.le_refl _)
    have r6 := r5.below hb6 (Nat.le_refl _)
    have d6 := d5.below hb6 (Nat.le_refl _)
    clear r2 r3 r4 r5 d2 d3 d4 d5 m3 m4 m5 t3 t4 t5 q2 q3 q4 q5 hb2 hb3 hb4 hb5 hb6 hB1 hB2 hB3 hB4 hB5
    cases e1 : decide (okQ q)
    · go_wp2_with fail
      refine (wpSame_c r6 m6 hbM).mono ?_
      rintro e w7 ⟨rfl, hb7⟩
      have hB7 := hB6.trans (hb7.mono hB6.size)
      have d7 := d6.below hb7 (Nat.le_refl _)
      have t7 := t6.below hb7 (Nat.le_refl _)
      go_wp2_with fail
      refine (wpSame_c d7 t7 hbN).mono ?_
      rintro e w8 ⟨rfl, hb8⟩
      go_wp2
      go_ret
      exact ⟨rfl, hB7.trans (hb8.mono hB7.size)⟩
    · have hok : okQ q := of_decide_eq_true e1
      obtain ⟨l1, l2, l3, l4, _, l6⟩ := tillQ_law at_ hok
      have l1' : Hid (decide (okQ (tillQ at_ q).1) = true) := hide (by simpa using l1)
      have l2' := hide l2
      have l3' := hide l3
      have l4' := hide l4
      have l6' := hide l6
      have l7 := hide l1.2
      clear l1 l2 l3 l4 l6 hok
      generalize (tillQ at_ q).1 = rr at *
      generalize (tillQ at_ q).2 = dd at *
      go_wp2_with fail
      go_loop [9] (fun i => ∃ k : Nat, k ≤ rr.length ∧ i = .int .i64 k) (fun i => rr.length - (intOf i).toNat)
      case atStart => exact ⟨0, Nat.zero_le _, rfl⟩
      case round =>
        obtain ⟨k, hk, rfl⟩ := hrel
        by_cases hlt : k < rr.length
        · obtain ⟨b, rfl, hlo, hbh⟩ := r6.addrAt hlt
          obtain ⟨a1, a2, a3⟩ := r6.tm hlt
          have hno : decide (rr[k].1 ≤ at_) = false := by simpa using l2'.out _ (List.getElem_mem hlt)
          go_wp2
          go_roundw
          case rel => exact ⟨k + 1, by omega, by go_num⟩
          case measure => simp [intOf]; omega
        · obtain rfl : k = rr.length := by omega
          go_wp2_with fail
          go_loopw [10] (fun i wr => ∃ k : Nat, k ≤ dd.length ∧ i = .int .i64 k ∧ Below w6.heap.size w6 wr) (fun i _ => dd.length - (intOf i).toNat)
          case atStart => exact ⟨0, Nat.zero_le _, rfl, Below.refl _ _⟩
          case round =>
            obtain ⟨k, hk, rfl, hbr⟩ := hrel
            have dr := d6.below hbr (Nat.le_refl _)
            by_cases hlt : k < dd.length
            · obtain ⟨b, rfl, hlo, hbh⟩ := dr.addrAt hlt
              obtain ⟨a1, a2, a3⟩ := dr.tm hlt
              have hno : decide (at_ < dd[k].1) = false := by have := l4'.out _ (List.getElem_mem hlt); simpa using this
              by_cases hk0 : 0 < k
              · have e2 : decide (0 < (k : Int)) = true := by simpa using hk0
                have hlx : k - 1 < dd.length := by omega
                obtain ⟨p1, p2, p3⟩ := dr.tm hlx
                have e3 : ((k : Int) - 1).toNat = k - 1 := by omega
                have hf : ltT dd[k - 1] dd[k] = true := List.pairwise_iff_getElem.1 l3'.out (k - 1) k hlx hlt (by omega)
                have hcf := wpFirst_c dd[k - 1] dd[k]
                simp only [hf] at hcf
                have hcf' := hide hcf
                clear hcf hf
                go_wp2
                refine wp_region_T (fun _ => True) [] [] [] [0, 1, 2, 3, 4, 5, 6, 7, 8, 9, 10, 11, 12, 13, 14, 15, 16, 17, 18, 19, 20, 21, 22, 23] (by kernel_rfl) (by kernel_rfl) (by kernel_rfl) trivial ?_; simp only [pickL, List.getElem?_cons_succ, List.getElem?_cons_zero]
                go_wp2_with (first
                  | ((with_reducible refine wpT_q0 ?_ ?_ ?_ ?_); (focus rfl); (focus rfl); (focus rfl); intro K hK) | ((with_reducible refine wpT_x0 ?_ ?_ ?_); (focus rfl); (focus rfl); intro K hK) | ((with_reducible refine wpT_noL ?_ ?_); (focus (first | exact wanted_no _ _ _ rfl rfl rfl | exact wanted_un _ _ _ rfl rfl rfl)); simp only [setO, List.set_cons_succ, List.set_cons_zero]) | ((with_reducible refine wpT_q1 ?_ ?_ ?_ ?_); (focus exact wanted_yes _ _ _ rfl rfl rfl); (focus rfl); (focus rfl); intro K hK) | ((with_reducible refine wpT_x1 ?_ ?_ ?_); (focus exact wanted_yes _ _ _ rfl rfl rfl); (focus rfl); intro K hK) | ((with_reducible refine wpT_nil ?_); try dsimp only)
                  | (go_at_call 30; refine (hcf'.out _).mono ?_; rintro e w7 ⟨rfl, hb7⟩))
                go_roundw
                case rel => exact ⟨k + 1, by omega, by go_num, hbr.drew.trans (hb7.mono hbr.size)⟩
                case measure => simp [intOf]; omega
              · have e2 : decide (0 < (k : Int)) = false := by simpa using hk0
                go_wp2
                refine wp_region_T (fun _ => True) [] [] [] [0, 1, 2, 3, 4, 5, 6, 7, 8, 9, 10, 11, 12, 13, 14, 15, 16, 17, 18, 19, 20, 21, 22, 23] (by kernel_rfl) (by kernel_rfl) (by kernel_rfl) trivial ?_; simp only [pickL, List.getElem?_cons_succ, List.getElem?_cons_zero]
                go_wp2_with (first
                  | ((with_reducible refine wpT_q0 ?_ ?_ ?_ ?_); (focus rfl); (focus rfl); (focus rfl); intro K hK) | ((with_reducible refine wpT_x0 ?_ ?_ ?_); (focus rfl); (focus rfl); intro K hK) | ((with_reducible refine wpT_noL ?_ ?_); (focus (first | exact wanted_no _ _ _ rfl rfl rfl | exact wanted_un _ _ _ rfl rfl rfl)); simp only [setO, List.set_cons_succ, List.set_cons_zero]) | ((with_reducible refine wpT_q1 ?_ ?_ ?_ ?_); (focus exact wanted_yes _ _ _ rfl rfl rfl); (focus rfl); (focus rfl); intro K hK) | ((with_reducible refine wpT_x1 ?_ ?_ ?_); (focus exact wanted_yes _ _ _ rfl rfl rfl); (focus rfl); intro K hK) | ((with_reducible refine wpT_nil ?_); try dsimp only)
                  | fail)
                go_roundw
                case rel => exact ⟨k + 1, by omega, by go_num, hbr.drew⟩
                case measure => simp [intOf]; omega
            · obtain rfl : k = dd.length := by omega
              have rr' := r6.below hbr (Nat.le_refl _)
              have hck := QueueOk_c Ar rr.length cr _ _ rr wr rfl (by have := l7.out; omega) hcr1 hcr2 (rr'.slAt encT_len).2.2 (Nat.le_refl _)
              rw [l1'.out] at hck
              have hck' := hide hck
              clear hck
              have el : (((rr.length : Int) + (dd.length : Int)) == (q.length : Int)) = true := by have := l6'.out; simp; omega
              have hdl : dd.length ≤ 25 := by have := l6'.out; omega
              have hrl : rr.length ≤ 25 := by have := l6'.out; omega
              go_wp2_with fail
              refine hck'.out.mono ?_
              rintro e w8 ⟨rfl, hb8⟩
              go_wp2
              go_ret
              exact ⟨rfl, (hB6.trans (hbr.mono hB6.size)).trans (hb8.mono (Nat.le_trans hB6.size hbr.size))⟩

/-! ### The row of 'laws.FnQueueTill' -/
namespace FnQueueTill
open Go.ChangeShapes Go.WideShapes Go.ChangeAt Go.RowKit
open Go.ChangeMaps (open_string shut_string)
theorem own : ownKnob Try.prog.godebug = none := by kernel_rfl
theorem laidOut : laidOutB Try.prog = true := by kernel_rfl

set_option maxRecDepth 100000 in
theorem lifted (os : Os) (started : os.Started) (H : Type) (enc : TypeId × Value → H) :
    ReturnsInHanded {} Try.checked os 9 .any (Rows.fnQueueTillSpec.pre6 enc Try.prog Try.f9 Rows.fnQueueTillRow.domain false) (Rows.fnQueueTillSpec.post enc Try.prog Try.f9 false true false false) := by
  refine returnsInHanded_of_change (C := Try.checked) own started (by kernel_rfl) Try.func9
    (ChangeSpec.witness6 (enc := enc) (C := Try.checked) false ⟨#[], #[.slice none 0 0], []⟩ 8 (by kernel_rfl) (by kernel_rfl) (by kernel_rfl) (by kernel_rfl)) ?_
  intro W base args ds gs before hval0 hW hcnd _
  have hval : ∀ (j : Nat) t v, Try.f9.params[j]? = some t → args[j]? = some v → Value.okWide Try.prog W .any base t v := hval0
  have hW' := hW
  obtain ⟨p, q, hA0, hV, rfl, hfz, hnd⟩ := hW
  have hA : DataW.TrodAll enc Try.prog W 0 (fun _ => true) true Try.f9.params.toList args.toList ds p := hA0
  rw [Try.params9] at hA hval
  obtain ⟨v0, vs0, d0, ds0, p0, q0, hargs, rfl, rfl, h0, r0⟩ := trodAll_cons hA
  obtain ⟨rfl, rfl, rfl⟩ := trodAll_nil r0
  obtain rfl : args = #[v0] := by cases args; simp_all
  obtain ⟨rfl, rfl⟩ := trodVars_none hV
  have k0 := h0
  have lt0 : ∀ x ∈ p0, x.block < W.heap.size := by obtain ⟨m, hm⟩ := k0; exact DataW.trod_lt m _ _ _ hm
  obtain ⟨A0, len0, cap0, z0, rfl, hl0, hc0, hm0, w0, g0⟩ : ∃ A len cap, ∃ xs : List Int, v0 = .slice A len cap ∧ len = xs.length ∧ len ≤ cap ∧ cap ≤ maxLen ∧ Sl encU 1 W 0 W.heap.size A xs ∧ ∀ x ∈ xs, (fun b => 0 ≤ b ∧ b < 256) x := by
    obtain ⟨fuel, hf⟩ := h0
    obtain ⟨a0, len0, cap0, rfl⟩ := okWide_slice Try.underlying29 (hval 0 29 v0 rfl rfl)
    simp only [Value.cells] at hf
    exact trod_sl (encA := encU) (sz := 1) (Good := fun b => 0 ≤ b ∧ b < 256) Try.underlying29 (by kernel_rfl) (by omega) encU_len hf (fun n cs y hy => (by obtain ⟨k, h1, _, h2⟩ := DataW.trod_int Try.underlying5 hy; exact ⟨k, h1, u8_wf h2⟩))
  clear hA0 hval0
  refine (lawQueueTillD A0 len0 cap0 z0 W hl0 hc0 hm0 w0 g0).mono fun e W' ⟨he, bel⟩ => ?_
  subst he
  exact ⟨_, rfl, _, _, _, [], _, [], hW', trodAll_mk1 (shut_bool Try.underlying4 _), (trodAll_cons_mk (Below.trod laidOut (by kernel_rfl) (of_decide_eq_true (by kernel_rfl)) k0 bel lt0) trodAll_mk0), rfl, bel.frame _, fun h => by cases h⟩

theorem over : Rows.fnQueueTillRow.holds Try.pinned (OpenSpec.ofChange Rows.fnQueueTillSpec) :=
  OpenClaim.holds_of_wide 9 Try.f9 rfl rfl rfl rfl rfl rfl rfl ⟨rfl, rfl, rfl, rfl, rfl⟩ rfl rfl rfl rfl rfl (by kernel_rfl) Try.func9 (by kernel_rfl)
    (of_decide_eq_true (by kernel_rfl)) (by unfold Func.isWrapper; first | (rw [if_pos (by decide +kernel)]; kernel_rfl) | (rw [if_neg (by decide +kernel)]; exact ⟨rfl, rfl⟩))
    (fun os started H enc _ => lifted os started H enc)

theorem proved : Rows.FnQueueTillSaid := over
end FnQueueTill
end Go.Proofs.Ytaklfalkpkifmaa
