/-
  'FnQueueNext' returns true, for every code: the first that comes of a drawn queue is ahead of all others.
  Conditions: none.
-/
import Derived.Test.YtaklfalkpkifmaaQYa
namespace Go.Proofs.Ytaklfalkpkifmaa
open Go.RowKit Rg
set_option linter.unusedVariables false

theorem wpSame_c {A B : Option Addr} {n m c d lo lo' : Nat} {xs : List Tm} {w : World} (h : Own encT 3 31 w lo (.slice A n c) xs) (h' : Own encT 3 31 w lo' (.slice B m d) xs) (hb : xs.length ≤ 1048576) :
    Calls Try.prog 20 #[.slice A n c, .slice B m d] w fun e w' => e = .returned (.bool true) ∧ Below w.heap.size w w' := by
  obtain ⟨h1, _, h2⟩ := h.slAt encT_len
  obtain ⟨h3, _, h4⟩ := h'.slAt encT_len
  have := wpTimed_c A B n m c d _ _ _ _ xs xs w h1 h3 (by omega) (by omega) h2 h4 (Nat.le_refl _) (Nat.le_refl _)
  simpa using this

set_option maxHeartbeats 4000000 in
theorem lawQueueNextD (A : Option Addr) (n c : Nat) (bs : List Int) (w : World) (hn : n = bs.length) (hc : n ≤ c) (hcm : c ≤ maxLen) (hs : Sl encU 1 w 0 w.heap.size A bs) (hb : ∀ b ∈ bs, 0 ≤ b ∧ b < 256) :
    Calls Try.prog 8 #[.slice A n c] w fun e w' => e = .returned (.bool true) ∧ Below w.heap.size w w' := by
  have hn' := hide hn
  have hb' := hide hb
  clear hn hb
  by_cases hbig : 1048576 < n
  · have d1 : decide (1048576 < (n : Int)) = true := by simp; omega
    go_enter Try.func8, Try.ntmps8
    go_wp2
    go_ret
    exact ⟨rfl, Below.refl _ _⟩
  · have d1 : decide (1048576 < (n : Int)) = false := by simp; omega
    go_enter Try.func8, Try.ntmps8
    go_wp2_with fail
    refine (DrawQueueNext_c A n c bs w hn'.out hc hcm hs hb'.out).mono ?_
    rintro e w1 ⟨v1, q, rfl, hq, ho1, hB1⟩
    obtain ⟨A1, c1, rfl, hc11, hc12, hs1⟩ := ho1.sl encT_len
    by_cases hk : okQ q ∧ 0 < q.length
    · obtain ⟨hok, h0⟩ := hk
      have hnx := nextL_yes (by simpa using hok) h0
      have hpl : (popL q h0).length ≤ 25 := by rw [popL_len]; omega
      have hok' := hide hok
      clear hok
      have hc1 := QueueNext_c A1 q.length c1 _ _ q w1 rfl (by omega) hc11 hc12 hs1 (Nat.le_refl _)
      have hc2 := fun W (h : Sl encT 3 W 0 W.heap.size A1 q) => specQueueNext_c A1 q.length c1 _ _ q W rfl (by omega) h (Nat.le_refl _)
      rw [hnx] at hc1
      simp only [hnx] at hc2
      dsimp only at hc1 hc2
      have hc1' := hide hc1
      have hc2' := hide hc2
      have hnx' := hide hnx
      clear hc1 hc2 hnx
      go_wp2_with fail
      refine hc1'.out.mono ?_
      rintro e w2 ⟨v2, rfl, ho2', hb2⟩
      have hB2 := hB1.trans (hb2.mono hB1.size)
      have ho2 := ho2'.mono hB1.size
      have hq2 := ho1.below hb2 (Nat.le_refl _)
      obtain ⟨A2, c2, rfl, hc21, hc22, hs2⟩ := ho2.sl encT_len
      clear hc1' ho2'
      have hA3 := (Below.refl w2.heap.size w2).alloc (Nat.le_refl _) (.cells #[.int .i64 q[0].1, .int .i64 q[0].2.1, .int .i64 q[0].2.2] 31)
      have hB3 := hB2.trans (hA3.mono hB2.size)
      have hq3 := hq2.alloc (.cells #[.int .i64 q[0].1, .int .i64 q[0].2.1, .int .i64 q[0].2.2] 31)
      have ho3 := ho2.alloc (.cells #[.int .i64 q[0].1, .int .i64 q[0].2.1, .int .i64 q[0].2.2] 31)
      have hx3 := Box3.made w2 q[0].1 q[0].2.1 q[0].2.2 31
      have hbx : w.heap.size ≤ w2.heap.size := hB2.size
      go_wp2_with fail
      generalize w2.alloc (.cells #[.int .i64 q[0].1, .int .i64 q[0].2.1, .int .i64 q[0].2.2] 31) = w3 at *
      refine (hc2'.out w3 ((hq3.slAt encT_len).2.2.mono (Nat.zero_le _) (Nat.le_refl _))).mono ?_
      rintro e w4 ⟨v4, rfl, ho4', hb4⟩
      have hB4 := hB3.trans (hb4.mono hB3.size)
      have hq4 := hq3.below hb4 (Nat.le_refl _)
      have hg4 := ho3.below hb4 (Nat.le_refl _)
      have hw4 := ho4'.mono hB3.size
      have hx4 := hx3.below hb4
      obtain ⟨A4, c4, rfl, hc41, hc42, hs4⟩ := hw4.sl encT_len
      clear hc2' ho4'
      have hA5 := (Below.refl w4.heap.size w4).alloc (Nat.le_refl _) (.cells #[.int .i64 q[0].1, .int .i64 q[0].2.1, .int .i64 q[0].2.2] 31)
      have hB5 := hB4.trans (hA5.mono hB4.size)
      have hq5 := hq4.alloc (.cells #[.int .i64 q[0].1, .int .i64 q[0].2.1, .int .i64 q[0].2.2] 31)
      have hg5 := hg4.alloc (.cells #[.int .i64 q[0].1, .int .i64 q[0].2.1, .int .i64 q[0].2.2] 31)
      have hw5 := hw4.alloc (.cells #[.int .i64 q[0].1, .int .i64 q[0].2.1, .int .i64 q[0].2.2] 31)
      have hx5 := hx4.below hA5
      have hy5 := Box3.made w4 q[0].1 q[0].2.1 q[0].2.2 31
      obtain ⟨x0, x1, x2, _⟩ := hx5
      obtain ⟨y0, y1, y2, _⟩ := hy5
      go_wp2_with fail
      generalize w4.alloc (.cells #[.int .i64 q[0].1, .int .i64 q[0].2.1, .int .i64 q[0].2.2] 31) = w5 at *
      refine (wpSame_c hg5 hw5 (by omega)).mono ?_
      rintro e w6 ⟨rfl, hb6⟩
      have hB6 := hB5.trans (hb6.mono hB5.size)
      have hq6 := hq5.below hb6 (Nat.le_refl _)
      have hg6 := hg5.below hb6 (Nat.le_refl _)
      have hw6 := hw5.below hb6 (Nat.le_refl _)
      have x0 := keepc hb6 x0
      have x1 := keepc hb6 x1
      have x2 := keepc hb6 x2
      have y0 := keepc hb6 y0
      have y1 := keepc hb6 y1
      have y2 := keepc hb6 y2
      have hlt' := hide (fun x (hx : x ∈ popL q h0) => first_lt hok'.out h0 hx)
      go_wp2_with fail
      go_loopw [10] (fun i wr => ∃ k : Nat, k ≤ (popL q h0).length ∧ i = .int .i64 k ∧ Below w6.heap.size w6 wr) (fun i _ => (popL q h0).length - (intOf i).toNat)
      case atStart => exact ⟨0, Nat.zero_le _, rfl, Below.refl _ _⟩
      case round =>
        obtain ⟨k, hk, rfl, hbr⟩ := hrel
        have hgr := hg6.below hbr (Nat.le_refl _)
        have x0 := keepc hbr x0
        have x1 := keepc hbr x1
        have x2 := keepc hbr x2
        by_cases hlt : k < (popL q h0).length
        · obtain ⟨b, rfl, hlo, hbh⟩ := hgr.addrAt hlt
          obtain ⟨a1, a2, a3⟩ := hgr.tm hlt
          have hf : ltT q[0] (popL q h0)[k] = true := hlt'.out _ (List.getElem_mem _)
          have hcf := wpFirst_c q[0] (popL q h0)[k]
          simp only [hf] at hcf
          have hbx' : w2.heap.size < wr.heap.size := lt_of_cell x0
          go_wp2
          refine wp_region_T (fun _ => True) [] [] [] [0, 1, 2, 3, 4, 5, 6] (by kernel_rfl) (by kernel_rfl) (by kernel_rfl) trivial ?_; simp only [pickL, List.getElem?_cons_succ, List.getElem?_cons_zero]
          go_wp2_with (first
            | ((with_reducible refine wpT_q0 ?_ ?_ ?_ ?_); (focus rfl); (focus rfl); (focus rfl); intro K hK) | ((with_reducible refine wpT_x0 ?_ ?_ ?_); (focus rfl); (focus rfl); intro K hK) | ((with_reducible refine wpT_noL ?_ ?_); (focus (first | exact wanted_no _ _ _ rfl rfl rfl | exact wanted_un _ _ _ rfl rfl rfl)); simp only [setO, List.set_cons_succ, List.set_cons_zero]) | ((with_reducible refine wpT_q1 ?_ ?_ ?_ ?_); (focus exact wanted_yes _ _ _ rfl rfl rfl); (focus rfl); (focus rfl); intro K hK) | ((with_reducible refine wpT_x1 ?_ ?_ ?_); (focus exact wanted_yes _ _ _ rfl rfl rfl); (focus rfl); intro K hK) | ((with_reducible refine wpT_nil ?_); try dsimp only)
            | (go_at_call 30; refine (hcf _).mono ?_; rintro e w7 ⟨rfl, hb7⟩))
          go_roundw
          case rel => exact ⟨k + 1, by omega, by go_num, hbr.drew.trans (hb7.mono hbr.size)⟩
          case measure => simp [intOf]; omega
        · obtain rfl : k = (popL q h0).length := by omega
          have hq7 := hq6.below hbr (Nat.le_refl _)
          obtain ⟨hn7, _, hs7⟩ := hgr.slAt encT_len
          have hfb := first_back hok'.out h0
          have hcr := QueueAdd_c A2 (popL q h0).length c2 _ _ (popL q h0) q[0] wr rfl (by omega) hc21 hc22 hs7 (Nat.le_refl _)
          rw [hfb.1] at hcr
          dsimp only at hcr
          have hcr' := hide hcr
          have hfb' := hide hfb.2
          clear hcr hfb
          go_wp2_with fail
          refine hcr'.out.mono ?_
          rintro e w8 ⟨v8, rfl, ho8', hb8⟩
          have hbr6 := hB6.trans (hbr.mono hB6.size)
          have hB8 := hbr6.trans (hb8.mono hbr6.size)
          have ho8 := ho8'.mono hbr6.size
          have hg8 := hgr.below hb8 (Nat.le_refl _)
          have x0 := keepc hb8 x0
          have x1 := keepc hb8 x1
          have x2 := keepc hb8 x2
          have hl8 : (riseAt (popL q h0).length (popL q h0 ++ [q[0]])).length = (popL q h0).length + 1 := by rw [riseAt_len]; simp
          have hz8 : 0 < (riseAt (popL q h0).length (popL q h0 ++ [q[0]])).length := by omega
          obtain ⟨A8, c8, rfl, hc81, hc82, hs8⟩ := ho8.sl encT_len
          obtain ⟨b8, rfl, hlo8, hbh8⟩ := ho8.addrAt hz8
          obtain ⟨a1, a2, a3⟩ := ho8.tm hz8
          rw [hfb'.out hz8] at a1 a2 a3
          obtain ⟨hn8, _, hs28⟩ := hg8.slAt encT_len
          have hokp : decide (okQ (popL q h0)) = true := by simpa using okQ_pop hok'.out h0
          have hck := fun W (h : Sl encT 3 W 0 W.heap.size A2 (popL q h0)) => QueueOk_c A2 (popL q h0).length c2 _ _ (popL q h0) W rfl (by omega) hc21 hc22 h (Nat.le_refl _)
          simp only [hokp] at hck
          have hck' := hide hck
          have e14 : (((popL q h0).length : Int) == (q.length : Int) - 1) = true := by rw [popL_len]; simp; omega
          have hx8 : w2.heap.size < w8.heap.size := lt_of_cell x0
          have hhb8 : b8 < w8.heap.size := hbh8
          have hb8 : Below w8.heap.size w8 w8 := Below.refl _ _
          clear hck hfb' hcr' hokp
          have hs28' : Sl encT 3 w8.drew 0 w8.drew.heap.size A2 (popL q h0) := hs28.mono (Nat.zero_le _) (Nat.le_refl _)
          have x0 : w8.drew.cell? ⟨w2.heap.size, 0, none⟩ = _ := x0
          have x1 : w8.drew.cell? ⟨w2.heap.size, 1, none⟩ = _ := x1
          have x2 : w8.drew.cell? ⟨w2.heap.size, 2, none⟩ = _ := x2
          have a1 : w8.drew.cell? ⟨b8, 0 * 3, none⟩ = _ := a1
          have a2 : w8.drew.cell? ⟨b8, 0 * 3 + 1, none⟩ = _ := a2
          have a3 : w8.drew.cell? ⟨b8, 0 * 3 + 2, none⟩ = _ := a3
          generalize riseAt (popL q h0).length (popL q h0 ++ [q[0]]) = rr at *
          go_wp2
          refine wp_region_T (fun _ => True) [] [] [] [0, 1, 2, 3, 4, 5, 6, 7, 8, 9, 10, 11, 12, 13, 14, 15, 16, 17, 18, 19, 20] (by kernel_rfl) (by kernel_rfl) (by kernel_rfl) trivial ?_; simp only [pickL, List.getElem?_cons_succ, List.getElem?_cons_zero]
          go_wp2_with (first
            | ((with_reducible refine wpT_q0 ?_ ?_ ?_ ?_); (focus rfl); (focus rfl); (focus rfl); intro K hK) | ((with_reducible refine wpT_x0 ?_ ?_ ?_); (focus rfl); (focus rfl); intro K hK) | ((with_reducible refine wpT_noL ?_ ?_); (focus (first | exact wanted_no _ _ _ rfl rfl rfl | exact wanted_un _ _ _ rfl rfl rfl)); simp only [setO, List.set_cons_succ, List.set_cons_zero]) | ((with_reducible refine wpT_q1 ?_ ?_ ?_ ?_); (focus exact wanted_yes _ _ _ rfl rfl rfl); (focus rfl); (focus rfl); intro K hK) | ((with_reducible refine wpT_x1 ?_ ?_ ?_); (focus exact wanted_yes _ _ _ rfl rfl rfl); (focus rfl); intro K hK) | ((with_reducible refine wpT_nil ?_); try dsimp only)
            | (go_at_call 15; refine (hck'.out _ hs28').mono ?_; rintro e w9 ⟨rfl, hb9⟩; have x0 := keepc hb9 x0; have x1 := keepc hb9 x1; have x2 := keepc hb9 x2; have a1 := keepc hb9 a1; have a2 := keepc hb9 a2; have a3 := keepc hb9 a3))
          go_ret
          exact ⟨rfl, hB8.drew.trans (hb9.mono hB8.size)⟩
    · have hnx := nextL_not (xs := q) (by by_cases h1 : okQ q <;> simp [h1] at hk ⊢; exact hk)
      have hc1 := QueueNext_c A1 q.length c1 _ _ q w1 rfl (by omega) hc11 hc12 hs1 (Nat.le_refl _)
      have hc2 := fun W (h : Sl encT 3 W 0 W.heap.size A1 q) => specQueueNext_c A1 q.length c1 _ _ q W rfl (by omega) h (Nat.le_refl _)
      rw [hnx] at hc1
      simp only [hnx] at hc2
      dsimp only at hc1 hc2
      have hc1' := hide hc1
      have hc2' := hide hc2
      have hnx' := hide hnx
      clear hc1 hc2 hnx
      go_wp2_with fail
      refine hc1'.out.mono ?_
      rintro e w2 ⟨v2, rfl, ho2', hb2⟩
      have hB2 := hB1.trans (hb2.mono hB1.size)
      have ho2 := ho2'.mono hB1.size
      have hq2 := ho1.below hb2 (Nat.le_refl _)
      obtain ⟨A2, c2, rfl, hc21, hc22, hs2⟩ := ho2.sl encT_len
      clear hc1' ho2'
      have hA3 := (Below.refl w2.heap.size w2).alloc (Nat.le_refl _) (.cells #[.int .i64 0, .int .i64 0, .int .i64 0] 31)
      have hB3 := hB2.trans (hA3.mono hB2.size)
      have hq3 := hq2.alloc (.cells #[.int .i64 0, .int .i64 0, .int .i64 0] 31)
      have ho3 := ho2.alloc (.cells #[.int .i64 0, .int .i64 0, .int .i64 0] 31)
      have hx3 := Box3.made w2 0 0 0 31
      have hbx : w.heap.size ≤ w2.heap.size := hB2.size
      go_wp2_with fail
      generalize w2.alloc (.cells #[.int .i64 0, .int .i64 0, .int .i64 0] 31) = w3 at *
      refine (hc2'.out w3 ((hq3.slAt encT_len).2.2.mono (Nat.zero_le _) (Nat.le_refl _))).mono ?_
      rintro e w4 ⟨v4, rfl, ho4', hb4⟩
      have hB4 := hB3.trans (hb4.mono hB3.size)
      have hq4 := hq3.below hb4 (Nat.le_refl _)
      have hg4 := ho3.below hb4 (Nat.le_refl _)
      have hw4 := ho4'.mono hB3.size
      have hx4 := hx3.below hb4
      obtain ⟨A4, c4, rfl, hc41, hc42, hs4⟩ := hw4.sl encT_len
      clear hc2' ho4'
      have hA5 := (Below.refl w4.heap.size w4).alloc (Nat.le_refl _) (.cells #[.int .i64 0, .int .i64 0, .int .i64 0] 31)
      have hB5 := hB4.trans (hA5.mono hB4.size)
      have hq5 := hq4.alloc (.cells #[.int .i64 0, .int .i64 0, .int .i64 0] 31)
      have hg5 := hg4.alloc (.cells #[.int .i64 0, .int .i64 0, .int .i64 0] 31)
      have hw5 := hw4.alloc (.cells #[.int .i64 0, .int .i64 0, .int .i64 0] 31)
      have hx5 := hx4.below hA5
      have hy5 := Box3.made w4 0 0 0 31
      obtain ⟨x0, x1, x2, _⟩ := hx5
      obtain ⟨y0, y1, y2, _⟩ := hy5
      go_wp2_with fail
      generalize w4.alloc (.cells #[.int .i64 0, .int .i64 0, .int .i64 0] 31) = w5 at *
      refine (wpSame_c hg5 hw5 (by simp)).mono ?_
      rintro e w6 ⟨rfl, hb6⟩
      have hB6 := hB5.trans (hb6.mono hB5.size)
      have hq6 := hq5.below hb6 (Nat.le_refl _)
      have hg6 := hg5.below hb6 (Nat.le_refl _)
      have hw6 := hw5.below hb6 (Nat.le_refl _)
      have x0 := keepc hb6 x0
      have x1 := keepc hb6 x1
      have x2 := keepc hb6 x2
      have y0 := keepc hb6 y0
      have y1 := keepc hb6 y1
      have y2 := keepc hb6 y2
      go_wp2_with fail
      refine (wpSame_c hg6 hw6 (by simp)).mono ?_
      rintro e w7 ⟨rfl, hb7⟩
      go_wp2
      go_ret
      exact ⟨rfl, hB6.trans (hb7.mono hB6.size)⟩

/-! ### The row of 'laws.FnQueueNext' -/
namespace FnQueueNext
open Go.ChangeShapes Go.WideShapes Go.ChangeAt Go.RowKit
open Go.ChangeMaps (open_string shut_string)
theorem own : ownKnob Try.prog.godebug = none := by kernel_rfl
theorem laidOut : laidOutB Try.prog = true := by kernel_rfl

set_option maxRecDepth 100000 in
theorem lifted (os : Os) (started : os.Started) (H : Type) (enc : TypeId × Value → H) :
    ReturnsInHanded {} Try.checked os 8 .any (Rows.fnQueueNextSpec.pre6 enc Try.prog Try.f8 Rows.fnQueueNextRow.domain false) (Rows.fnQueueNextSpec.post enc Try.prog Try.f8 false true false false) := by
  refine returnsInHanded_of_change (C := Try.checked) own started (by kernel_rfl) Try.func8
    (ChangeSpec.witness6 (enc := enc) (C := Try.checked) false ⟨#[], #[.slice none 0 0], []⟩ 8 (by kernel_rfl) (by kernel_rfl) (by kernel_rfl) (by kernel_rfl)) ?_
  intro W base args ds gs before hval0 hW hcnd _
  have hval : ∀ (j : Nat) t v, Try.f8.params[j]? = some t → args[j]? = some v → Value.okWide Try.prog W .any base t v := hval0
  have hW' := hW
  obtain ⟨p, q, hA0, hV, rfl, hfz, hnd⟩ := hW
  have hA : DataW.TrodAll enc Try.prog W 0 (fun _ => true) true Try.f8.params.toList args.toList ds p := hA0
  rw [Try.params8] at hA hval
  obtain ⟨v0, vs0, d0, ds0, p0, q0, hargs, rfl, rfl, h0, r0⟩ := trodAll_cons hA
  obtain ⟨rfl, rfl, rfl⟩ := trodAll_nil r0
  obtain rfl : args = #[v0] := by cases args; simp_all
  obtain ⟨rfl, rfl⟩ := trodVars_none hV
  have k0 := h0
  have lt0 : ∀ x ∈ p0, x.block < W.heap.size := by obtain ⟨m, hm⟩ := k0; exact DataW.trod_lt m _ _ _ hm
  obtain ⟨A0, len0, cap0, z0, rfl, hl0, hc0, hm0, w0, g0⟩ : ∃ A len cap, ∃ xs : List Int, v0 = .slice A len cap ∧ len = xs.length ∧ len ≤ cap ∧ cap ≤ maxLen ∧ Sl encU 1 W 0 W.heap.size A xs ∧ ∀ x ∈ xs, (fun b => 0 ≤ b ∧ b < 256) x := by
    obtain ⟨fuel, hf⟩ := h0
    obtain ⟨a0, len0, cap0, rfl⟩ := okWide_slice Try.underlying29 (hval 0 29 v0 rfl rfl)
    simp only [Value.cells] at hf
    exact trod_sl (encA := encU) (sz := 1) (Good := fun b => 0 ≤ b ∧ b < 256) Try.underlying29 (by kernel_rfl) (by omega) encU_len hf (fun n cs y hy => (by obtain ⟨k, h1, _, h2⟩ := DataW.trod_int Try.underlying5 hy; exact ⟨k, h1, u8_wf h2⟩))
  clear hA0 hval0
  refine (lawQueueNextD A0 len0 cap0 z0 W hl0 hc0 hm0 w0 g0).mono fun e W' ⟨he, bel⟩ => ?_
  subst he
  exact ⟨_, rfl, _, _, _, [], _, [], hW', trodAll_mk1 (shut_bool Try.underlying4 _), (trodAll_cons_mk (Below.trod laidOut (by kernel_rfl) (of_decide_eq_true (by kernel_rfl)) k0 bel lt0) trodAll_mk0), rfl, bel.frame _, fun h => by cases h⟩

theorem over : Rows.fnQueueNextRow.holds Try.pinned (OpenSpec.ofChange Rows.fnQueueNextSpec) :=
  OpenClaim.holds_of_wide 8 Try.f8 rfl rfl rfl rfl rfl rfl rfl ⟨rfl, rfl, rfl, rfl, rfl⟩ rfl rfl rfl rfl rfl (by kernel_rfl) Try.func8 (by kernel_rfl)
    (of_decide_eq_true (by kernel_rfl)) (by unfold Func.isWrapper; first | (rw [if_pos (by decide +kernel)]; kernel_rfl) | (rw [if_neg (by decide +kernel)]; exact ⟨rfl, rfl⟩))
    (fun os started H enc _ => lifted os started H enc)

theorem proved : Rows.FnQueueNextSaid := over
end FnQueueNext
end Go.Proofs.Ytaklfalkpkifmaa
