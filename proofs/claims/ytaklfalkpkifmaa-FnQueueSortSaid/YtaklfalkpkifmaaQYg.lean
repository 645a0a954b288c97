/-
  'FnQueueSort' returns true, for every code: however drawn things are added, they come the same, in order.
  Conditions: none.
-/
import Derived.Test.YtaklfalkpkifmaaQYf
import Derived.Test.YtaklfalkpkifmaaQV
namespace Go.Proofs.Ytaklfalkpkifmaa
open Go.RowKit Rg
set_option linter.unusedVariables false

theorem can_of_len {xs : List Tm} (h : (sortL xs).length = xs.length) : canSort xs := by
  rcases sort_cases xs with h1 | h1
  · exact h1
  · rw [h1] at h
    have : xs = [] := List.eq_nil_of_length_eq_zero (by simpa using h.symm)
    subst this
    exact ⟨by simp, by simp, by simp⟩
theorem len_zero {xs : List Tm} (h : (sortL xs).length ≠ xs.length) : (sortL xs).length = 0 := by
  rcases sort_cases xs with h1 | h1
  · exact absurd (sort_can h1).2.2 h
  · rw [h1]; rfl
theorem drop_rev {xs : List Tm} {k : Nat} (h0 : 0 < k) (hk : k ≤ xs.length) : (xs.drop (k - 1)).reverse = (xs.drop k).reverse ++ [xs[k - 1]'(by omega)] := by
  rw [List.drop_eq_getElem_cons (by omega : k - 1 < xs.length), List.reverse_cons, show k - 1 + 1 = k by omega]

set_option maxHeartbeats 4000000 in
theorem lawQueueSortD (A : Option Addr) (n c : Nat) (bs : List Int) (w : World) (hn : n = bs.length) (hc : n ≤ c) (hcm : c ≤ maxLen) (hs : Sl encU 1 w 0 w.heap.size A bs) (hb : ∀ b ∈ bs, 0 ≤ b ∧ b < 256) :
    Calls Try.prog 10 #[.slice A n c] w fun e w' => e = .returned (.bool true) ∧ Below w.heap.size w w' := by
  have hn' := hide hn
  have hb' := hide hb
  clear hn hb
  by_cases hbig : 1048576 < n
  · have d1 : decide (1048576 < (n : Int)) = true := by simp; omega
    go_enter Try.func10, Try.ntmps10
    go_wp2
    go_ret
    exact ⟨rfl, Below.refl _ _⟩
  · have d1 : decide (1048576 < (n : Int)) = false := by simp; omega
    go_enter Try.func10, Try.ntmps10
    go_wp2_with fail
    refine (DrawQueueSort_c A n c bs w hn'.out hc hcm hs hb'.out).mono ?_
    rintro e w1 ⟨v1, q, rfl, hq, q1, hB1⟩
    obtain ⟨A1, c1, rfl, hc11, hc12, hs1⟩ := q1.sl encT_len
    have hbL := sortL_len q
    go_wp2_with fail
    refine (QueueSort_c A1 q.length c1 _ _ q w1 rfl (by omega) hs1 (Nat.le_refl _)).mono ?_
    rintro e w2 ⟨v2, rfl, ho2, hb2⟩
    have hB2 := hB1.trans (hb2.mono hB1.size)
    have q2 := q1.below hb2 (Nat.le_refl _)
    have x2 := ho2.mono hB1.size
    obtain ⟨Ax, cx, rfl, hx1, hx2, _⟩ := x2.sl encT_len
    go_wp2_with fail
    refine (specQueueSort_c A1 q.length c1 _ _ q w2 rfl (by omega) (q2.slAt encT_len).2.2 (Nat.le_refl _)).mono ?_
    rintro e w3 ⟨v3, rfl, ho3, hb3⟩
    have hB3 := hB2.trans (hb3.mono hB2.size)
    have q3 := q2.below hb3 (Nat.le_refl _)
    have x3 := x2.below hb3 (Nat.le_refl _)
    obtain ⟨Az, cz, rfl, _, _, _⟩ := ho3.form
    go_wp2_with fail
    refine (wpSame_c x3 ho3 hbL).mono ?_
    rintro e w4 ⟨rfl, hb4⟩
    have hB4 := hB3.trans (hb4.mono hB3.size)
    have q4 := q3.below hb4 (Nat.le_refl _)
    have x4 := x3.below hb4 (Nat.le_refl _)
    clear q1 q2 q3 x2 x3 ho2 ho3 hb2 hb3 hb4 hB1 hB2 hB3 hs1
    by_cases hlen : (sortL q).length = q.length
    · have d2 : (((sortL q).length : Int) != (q.length : Int)) = false := by simp; omega
      have hcan := can_of_len hlen
      have hsr := hide (sort_rev hcan)
      have hsa := hide (sort_again hcan)
      have hso := hide (sort_can hcan).1
      have hlen' := hide hlen
      clear hcan
      have hb5 := (Below.refl w4.heap.size w4).alloc (Nat.le_refl _) (.cells #[] 31)
      have ho5 := own_empty encT 3 31 w4
      have hB5 := hB4.trans (hb5.mono hB4.size)
      have q5 := q4.below hb5 (Nat.le_refl _)
      have x5 := x4.below hb5 (Nat.le_refl _)
      have hl45 : w4.heap.size ≤ (w4.alloc (.cells #[] 31)).heap.size := hb5.size
      clear hlen
      go_wp2_with fail
      generalize w4.alloc (.cells #[] 31) = w5 at *
      go_loopw [5, 6] (fun tv iv wr => ∃ k : Nat, k ≤ q.length ∧ iv = .int .i64 ((k : Int) - 1) ∧ Own encT 3 31 wr w4.heap.size tv (q.drop k).reverse ∧ Below w4.heap.size w4 wr) (fun _ iv _ => ((intOf iv) + 1).toNat)
      case atStart => exact ⟨q.length, Nat.le_refl _, by go_num, by rw [List.drop_length]; exact ho5, hb5⟩
      case round =>
        obtain ⟨k, hk, rfl, hor, hbr⟩ := hrel
        obtain ⟨At, ct, rfl, hct1, hct2, hst⟩ := hor.sl encT_len
        have hBr := hB4.trans (hbr.mono hB4.size)
        have qr := q4.below hbr (Nat.le_refl _)
        have hrl : (q.drop k).reverse.length ≤ 12 := by simp; omega
        have hrl' := hide hrl
        by_cases hk0 : 0 < k
        · have d3 : decide (0 ≤ (k : Int) - 1) = true := by simp; omega
          have hlx : k - 1 < q.length := by omega
          have hlc : k - 1 < q.length := hlx
          obtain ⟨g, rfl, hg1, hg2⟩ := qr.addrAt hlx
          obtain ⟨a1, a2, a3⟩ := qr.tm hlx
          have e3 : ((k : Int) - 1).toNat = k - 1 := by omega
          have hdr := hide (drop_rev hk0 hk)
          generalize hgen : (q.drop k).reverse = tr at *
          clear hgen
          go_wp2_with (at_builtin; refine wpList_app encT_len (by omega) encT_one rfl _ _ 25 rfl 31 _ 24 Try.underlying25 info_T rfl w4.heap.size _ tr rfl (hor.alloc _) 0 _ _ [q[k - 1]] _ _ rfl rfl (sl_one' wr _ q[k - 1] _ rfl) ?h2 ?h3 ?_)
          case h2 => simp [maxLen]; omega
          case h3 => simp; have := hbr.size; omega
          intro v8 w8 ho8 hg8 hb8
          have hb8' := (hbr.alloc hbr.size (.cells #[.int .i64 q[k - 1].1, .int .i64 q[k - 1].2.1, .int .i64 q[k - 1].2.2] 31)).trans hb8
          go_wp2
          go_roundw
          case rel => exact ⟨k - 1, by omega, by go_num, by rw [hdr.out]; exact ho8, hb8'⟩
          case measure => simp [intOf]; omega
        · have hk00 : k = 0 := by omega
          have xr := x4.below hbr (Nat.le_refl _)
          have hor' : Own encT 3 31 wr w4.heap.size (.slice At q.length ct) q.reverse := by
            subst hk00
            simpa using hor
          have z0 : ((k : Int) - 1) = -1 := by omega
          have z1 : (q.drop k).reverse.length = q.length := by subst hk00; simp
          rw [z0, z1]
          have hrl2 : q.reverse.length = q.length := by simp
          clear hor hst hct1 hrl hrl' z0 z1 hk0 hk hk00
          go_wp2_with fail
          go_loopw [7] (fun i wr2 => ∃ k : Nat, 1 ≤ k ∧ (k ≤ (sortL q).length ∨ k = 1) ∧ i = .int .i64 k ∧ Below wr.heap.size wr wr2) (fun i _ => (sortL q).length - (intOf i).toNat)
          case atStart => exact ⟨1, Nat.le_refl _, .inr rfl, rfl, Below.refl _ _⟩
          case round =>
            obtain ⟨k, hk1, hk2, rfl, hbs⟩ := hrel
            have xs_ := xr.below hbs (Nat.le_refl _)
            have hBs := hBr.trans (hbs.mono hBr.size)
            by_cases hlt : k < (sortL q).length
            · obtain ⟨g, rfl, hlo, hbh⟩ := xs_.addrAt hlt
              have hlp : k - 1 < (sortL q).length := by omega
              obtain ⟨a1, a2, a3⟩ := xs_.tm hlt
              obtain ⟨p1, p2, p3⟩ := xs_.tm hlp
              have e3 : ((k : Int) - 1).toNat = k - 1 := by omega
              have hf : ltT (sortL q)[k - 1] (sortL q)[k] = true := List.pairwise_iff_getElem.1 hso.out (k - 1) k hlp hlt (by omega)
              have hcf := wpFirst_c (sortL q)[k - 1] (sortL q)[k]
              simp only [hf] at hcf
              have hcf' := hide hcf
              clear hcf hf
              go_wp2
              refine wp_region_T (fun _ => True) [] [] [] [0, 1, 2, 3, 4, 5, 6, 7, 8, 9, 10] (by kernel_rfl) (by kernel_rfl) (by kernel_rfl) trivial ?_; simp only [pickL, List.getElem?_cons_succ, List.getElem?_cons_zero]
              go_wp2_with (first
                | ((with_reducible refine wpT_q0 ?_ ?_ ?_ ?_); (focus rfl); (focus rfl); (focus rfl); intro K hK) | ((with_reducible refine wpT_x0 ?_ ?_ ?_); (focus rfl); (focus rfl); intro K hK) | ((with_reducible refine wpT_noL ?_ ?_); (focus (first | exact wanted_no _ _ _ rfl rfl rfl | exact wanted_un _ _ _ rfl rfl rfl)); simp only [setO, List.set_cons_succ, List.set_cons_zero]) | ((with_reducible refine wpT_q1 ?_ ?_ ?_ ?_); (focus exact wanted_yes _ _ _ rfl rfl rfl); (focus rfl); (focus rfl); intro K hK) | ((with_reducible refine wpT_x1 ?_ ?_ ?_); (focus exact wanted_yes _ _ _ rfl rfl rfl); (focus rfl); intro K hK) | ((with_reducible refine wpT_nil ?_); try dsimp only)
                | (go_at_call 30; refine (hcf'.out _).mono ?_; rintro e w7 ⟨rfl, hb7⟩))
              go_roundw
              case rel => exact ⟨k + 1, by omega, .inl (by omega), by go_num, hbs.drew.trans (hb7.mono hbs.size)⟩
              case measure => simp [intOf]; omega
            · have d5 : decide ((k : Int) < ((sortL q).length : Int)) = false := by simp; omega
              have hos := hor'.below hbs (Nat.le_refl _)
              have hct2' := (hor'.cap).1
              have hcs := QueueSort_c At q.length ct _ _ q.reverse _ hrl2.symm (by omega) (hos.slAt encT_len).2.2 (Nat.le_refl _)
              rw [hsr.out] at hcs
              have hcs' := hide hcs
              clear hcs
              go_wp2_with fail
              refine hcs'.out.mono ?_
              rintro e w9 ⟨v9, rfl, ho9, hb9⟩
              have hB9 := hBs.trans (hb9.mono hBs.size)
              have x9 := xs_.below hb9 (Nat.le_refl _)
              obtain ⟨A9, c9, rfl, _, _, _⟩ := ho9.form
              go_wp2_with fail
              refine (wpSame_c ho9 x9 hbL).mono ?_
              rintro e w10 ⟨rfl, hb10⟩
              have hB10 := hB9.trans (hb10.mono hB9.size)
              have x10 := x9.below hb10 (Nat.le_refl _)
              have hct := QueueSort_c Ax (sortL q).length cx _ _ (sortL q) w10 rfl hbL (x10.slAt encT_len).2.2 (Nat.le_refl _)
              rw [hsa.out] at hct
              have hct' := hide hct
              clear hct
              go_wp2_with fail
              refine hct'.out.mono ?_
              rintro e w11 ⟨v11, rfl, ho11, hb11⟩
              have hB11 := hB10.trans (hb11.mono hB10.size)
              have x11 := x10.below hb11 (Nat.le_refl _)
              obtain ⟨A11, c11, rfl, _, _, _⟩ := ho11.form
              go_wp2_with fail
              refine (wpSame_c ho11 x11 hbL).mono ?_
              rintro e w12 ⟨rfl, hb12⟩
              go_wp2
              go_ret
              exact ⟨rfl, hB11.trans (hb12.mono hB11.size)⟩
    · have hz : (sortL q).length = 0 := len_zero hlen
      have d2 : (((sortL q).length : Int) != (q.length : Int)) = true := by simp; omega
      have d4 : (((sortL q).length : Int) == 0) = true := by rw [hz]; rfl
      clear hz hlen
      go_wp2_with fail
      refine (specQueueSort_c A1 q.length c1 _ _ q w4 rfl (by omega) (q4.slAt encT_len).2.2 (Nat.le_refl _)).mono ?_
      rintro e w5 ⟨v5, rfl, ho5, hb5⟩
      have hB5 := hB4.trans (hb5.mono hB4.size)
      have x5 := x4.below hb5 (Nat.le_refl _)
      obtain ⟨Aq, cq, rfl, _, _, _⟩ := ho5.form
      go_wp2_with fail
      refine (wpSame_c x5 ho5 hbL).mono ?_
      rintro e w6 ⟨rfl, hb6⟩
      go_wp2
      go_ret
      exact ⟨rfl, hB5.trans (hb6.mono hB5.size)⟩

/-! ### The row of 'laws.FnQueueSort' -/
namespace FnQueueSort
open Go.ChangeShapes Go.WideShapes Go.ChangeAt Go.RowKit
open Go.ChangeMaps (open_string shut_string)
theorem own : ownKnob Try.prog.godebug = none := by kernel_rfl
theorem laidOut : laidOutB Try.prog = true := by kernel_rfl

set_option maxRecDepth 100000 in
theorem lifted (os : Os) (started : os.Started) (H : Type) (enc : TypeId × Value → H) :
    ReturnsInHanded {} Try.checked os 10 .any (Rows.fnQueueSortSpec.pre6 enc Try.prog Try.f10 Rows.fnQueueSortRow.domain false) (Rows.fnQueueSortSpec.post enc Try.prog Try.f10 false true false false) := by
  refine returnsInHanded_of_change (C := Try.checked) own started (by kernel_rfl) Try.func10
    (ChangeSpec.witness6 (enc := enc) (C := Try.checked) false ⟨#[], #[.slice none 0 0], []⟩ 8 (by kernel_rfl) (by kernel_rfl) (by kernel_rfl) (by kernel_rfl)) ?_
  intro W base args ds gs before hval0 hW hcnd _
  have hval : ∀ (j : Nat) t v, Try.f10.params[j]? = some t → args[j]? = some v → Value.okWide Try.prog W .any base t v := hval0
  have hW' := hW
  obtain ⟨p, q, hA0, hV, rfl, hfz, hnd⟩ := hW
  have hA : DataW.TrodAll enc Try.prog W 0 (fun _ => true) true Try.f10.params.toList args.toList ds p := hA0
  rw [Try.params10] at hA hval
  obtain ⟨v0, vs0, d0, ds0, p0, q0, hargs, rfl, rfl, h0, r0⟩ := trodAll_cons hA
  obtain ⟨rfl, rfl, rfl⟩ := trodAll_nil r0
  obtain rfl : args = #[v0] := by cases args; simp_all
  obtain ⟨rfl, rfl⟩ := trodVars_none hV
  have k0 := h0
  have lt0 : ∀ x ∈ p0, x.block < W.heap.size := by obtain ⟨m, hm⟩ := k0; exact DataW.trod_lt m _ _ _ hm
  obtain ⟨A0, len0, cap0, z0, rfl, hl0, hc0, hm0, w0, g0⟩ : ∃ A len cap, ∃ xs : List Int, v0 = .slice A len cap ∧ len = xs.length ∧ len ≤ cap ∧ cap ≤ maxLen ∧ Sl encU 1 W 0 W.heap.size A xs ∧ ∀ x ∈ xs, (fun b => 0 ≤ b ∧ b < 256) x := by
    obtain ⟨fuel, hf⟩ := h0
    obtain ⟨a0, len0, cap0, rfl⟩ := okWide_slice Try.underlying29 (hval 0 29 v0 rfl rfl)
    simp only [Value.cells] at hf
    exact trod_sl (encA := encU) (sz := 1) (Good := fun b => 0 ≤ b ∧ b < 256) Try.underlying29 (by kernel_rfl) (by omega) encU_len hf (fun n cs y hy => (by obtain ⟨k, h1, _, h2⟩ := DataW.trod_int Try.underlying5 hy; exact ⟨k, h1, u8_wf h2⟩))
  clear hA0 hval0
  refine (lawQueueSortD A0 len0 cap0 z0 W hl0 hc0 hm0 w0 g0).mono fun e W' ⟨he, bel⟩ => ?_
  subst he
  exact ⟨_, rfl, _, _, _, [], _, [], hW', trodAll_mk1 (shut_bool Try.underlying4 _), (trodAll_cons_mk (Below.trod laidOut (by kernel_rfl) (of_decide_eq_true (by kernel_rfl)) k0 bel lt0) trodAll_mk0), rfl, bel.frame _, fun h => by cases h⟩

theorem over : Rows.fnQueueSortRow.holds Try.pinned (OpenSpec.ofChange Rows.fnQueueSortSpec) :=
  OpenClaim.holds_of_wide 10 Try.f10 rfl rfl rfl rfl rfl rfl rfl ⟨rfl, rfl, rfl, rfl, rfl⟩ rfl rfl rfl rfl rfl (by kernel_rfl) Try.func10 (by kernel_rfl)
    (of_decide_eq_true (by kernel_rfl)) (by unfold Func.isWrapper; first | (rw [if_pos (by decide +kernel)]; kernel_rfl) | (rw [if_neg (by decide +kernel)]; exact ⟨rfl, rfl⟩))
    (fun os started H enc _ => lifted os started H enc)

theorem proved : Rows.FnQueueSortSaid := over
end FnQueueSort
end Go.Proofs.Ytaklfalkpkifmaa
