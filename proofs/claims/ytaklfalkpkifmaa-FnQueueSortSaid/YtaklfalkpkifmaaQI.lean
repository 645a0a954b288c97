/-
  'QueueAdd' in both packages: what they answer.
-/
import Derived.Test.YtaklfalkpkifmaaQH
namespace Go.Proofs.Ytaklfalkpkifmaa
open Go.RowKit Rg
set_option linter.unusedVariables false

/-- What 'QueueAdd' answers. -/
def addL (xs : List Tm) (t : Tm) : List Tm × Bool := if okQ xs then if okT t = true ∧ ¬ t ∈ xs ∧ xs.length < 20 then (riseAt xs.length (xs ++ [t]), true) else (xs, false) else ([], false)
theorem addL_not {xs : List Tm} {t : Tm} (h : decide (okQ xs) = false) : addL xs t = ([], false) := by
  simp at h; simp [addL, h]
theorem addL_no {xs : List Tm} {t : Tm} (h : decide (okQ xs) = true) (h2 : okT t = false ∨ t ∈ xs ∨ 20 ≤ xs.length) : addL xs t = (xs, false) := by
  simp at h; unfold addL; rw [if_pos h, if_neg]; rintro ⟨h3, h4, h5⟩
  rcases h2 with h2 | h2 | h2
  · simp [h2] at h3
  · exact h4 h2
  · omega
theorem addL_yes {xs : List Tm} {t : Tm} (h : decide (okQ xs) = true) (h2 : okT t = true) (h3 : decide (t ∈ xs) = false) (h4 : ¬ xs.length = 20) : addL xs t = (riseAt xs.length (xs ++ [t]), true) := by
  simp at h h3; unfold addL; rw [if_pos h, if_pos ⟨h2, h3, by have := h.2; omega⟩]

theorem box3' {wr w1 : World} {x y z : Value} {e : TypeId} (hb : Below (wr.alloc (.cells #[x, y, z] e)).heap.size (wr.alloc (.cells #[x, y, z] e)) w1) :
    w1.cell? ⟨wr.heap.size, 0, none⟩ = some x ∧ w1.cell? ⟨wr.heap.size, 1, none⟩ = some y ∧ w1.cell? ⟨wr.heap.size, 2, none⟩ = some z :=
  ⟨(hb.cell (by simp)).trans (by simp), (hb.cell (by simp)).trans (by simp), (hb.cell (by simp)).trans (by simp)⟩
theorem sl_one (w : World) (t : Tm) (e : TypeId) : Sl encT 3 (w.alloc (.cells #[.int .i64 t.1, .int .i64 t.2.1, .int .i64 t.2.2] e)) 0 (w.heap.size + 1) (some ⟨w.heap.size, 0, none⟩) [t] := by
  intro _
  refine ⟨w.heap.size, 0, rfl, Nat.zero_le _, by omega, fun i x hx j u hu => ?_⟩
  have h0 := heap_alloc_new w (.cells #[.int .i64 t.1, .int .i64 t.2.1, .int .i64 t.2.2] e)
  match i, hx with
  | 0, hx =>
    simp at hx
    subst hx
    simp only [World.cell?, h0]
    match j, hu with
    | 0, hu => exact hu
    | 1, hu => exact hu
    | 2, hu => exact hu

set_option maxHeartbeats 2000000 in
theorem QueueAdd_c (A : Option Addr) (n c lo hi : Nat) (xs : List Tm) (t : Tm) (w : World) (hn : n = xs.length) (hb : n ≤ 1048576) (hc : n ≤ c) (hc2 : c ≤ maxLen) (hs : Sl encT 3 w lo hi A xs) (hhi : hi ≤ w.heap.size) :
    Calls Try.prog 18 #[.slice A n c, .agg #[.int .i64 t.1, .int .i64 t.2.1, .int .i64 t.2.2]] w fun e w' => ∃ v, e = .returned (.tuple #[v, .bool (addL xs t).2]) ∧ Own encT 3 31 w' w.heap.size v (addL xs t).1 ∧ Below w.heap.size w w' := by
  have hn' := hide hn
  clear hn
  have hW : Below w.heap.size w (w.alloc (.cells #[.int .i64 t.1, .int .i64 t.2.1, .int .i64 t.2.2] 31)) := (Below.refl _ _).alloc (Nat.le_refl _) _
  go_enter Try.func18, Try.ntmps18
  go_wp2_with fail
  refine (QueueOk_c A n c lo hi xs _ hn'.out hb hc hc2 (hs.below hW hhi) (Nat.le_trans hhi hW.size)).mono ?_
  rintro e w1 ⟨rfl, hb1⟩
  dsimp only
  obtain ⟨b1, b2, b3⟩ := box3' (wr := w) (e := 31) hb1
  have hB1 : Below w.heap.size w w1 := hW.trans (hb1.mono hW.size)
  cases e1 : decide (okQ xs)
  · go_wp2
    refine bodyPost_ret (v := .tuple #[.slice none 0 0, .bool false]) (by simp [results, Try.results18, go_sem]) rfl ⟨.slice none 0 0, ?_, ?_, ?_⟩
    · rw [addL_not e1]
    · rw [addL_not e1]; exact Own.nil_ _ _ _ _ _
    · exact hB1
  · have hle : Hid (n ≤ 20) := hide (by have := hn'.out; have h := (of_decide_eq_true e1).2; omega)
    go_wp2_with fail
    refine (clone_c A n c lo hi xs w1 hn'.out hb (hs.below hB1 hhi) (Nat.le_trans hhi hB1.size)).mono ?_
    rintro e w2 ⟨A', rfl, ho2, hb2⟩
    dsimp only
    have hB2 : Below w.heap.size w w2 := hB1.trans (hb2.mono hB1.size)
    have c1 := keepc hb2 b1
    have c2 := keepc hb2 b2
    have c3 := keepc hb2 b3
    go_wp2_with fail
    refine (ok_t t w2).mono ?_
    rintro e w3 ⟨rfl, hb3⟩
    dsimp only
    have hB3 : Below w.heap.size w w3 := hB2.trans (hb3.mono hB2.size)
    have d1 := keepc hb3 c1
    have d2 := keepc hb3 c2
    have d3 := keepc hb3 c3
    have ho3 := (ho2.below hb3 (Nat.le_refl _)).mono hB1.size
    cases e2 : okT t
    · go_wp2
      refine bodyPost_ret (v := .tuple #[.slice A' n n, .bool false]) (by simp [results, Try.results18, go_sem]) rfl ⟨.slice A' n n, ?_, ?_, ?_⟩
      · rw [addL_no e1 (.inl e2)]
      · rw [addL_no e1 (.inl e2)]; exact ho3
      · exact hB3
    · go_wp2_with fail
      refine (contains_c A n c lo hi xs t w3 hn'.out hb (hs.below hB3 hhi) (Nat.le_trans hhi hB3.size)).mono ?_
      rintro e w4 ⟨rfl, hb4⟩
      dsimp only
      have hB4 : Below w.heap.size w w4 := hB3.trans (hb4.mono hB3.size)
      have ho4 := ho3.below hb4 (Nat.le_refl _)
      have g1 := keepc hb4 d1
      have g2 := keepc hb4 d2
      have g3 := keepc hb4 d3
      cases e3 : decide (t ∈ xs)
      · by_cases h20 : n = 20
        · have e4 : ((n : Int) == 20) = true := by simp; omega
          have hno : addL xs t = (xs, false) := addL_no e1 (.inr (.inr (by have := hn'.out; omega)))
          go_wp2
          refine bodyPost_ret (v := .tuple #[.slice A' n n, .bool false]) (by simp [results, Try.results18, go_sem]) rfl ⟨.slice A' n n, ?_, ?_, ?_⟩
          · rw [hno]
          · rw [hno]; exact ho4
          · exact hB4
        · have e4 : ((n : Int) == 20) = false := by simp; omega
          have hyes := addL_yes (t := t) e1 e2 e3 (by have := hn'.out; omega)
          have hy' := hide hyes
          clear hyes
          go_wp2_with (at_builtin; refine wpList_app encT_len (by omega) encT_one rfl _ _ 25 rfl 31 _ 24 Try.underlying25 info_T rfl w.heap.size _ xs rfl (ho4.alloc _) 0 _ _ [t] _ _ rfl rfl (sl_one w4 t _) ?h2 ?h3 ?_)
          case h2 => have := hn'.out; simp [maxLen]; omega
          case h3 => simp; have := hB4.size; omega
          intro v5 w5 ho5 hg5 hb5
          have hB5 : Below w.heap.size w w5 := (hB4.alloc hB4.size _).trans hb5
          obtain ⟨A5, c5, rfl, hc5, hm5, hs5⟩ := ho5.sl encT_len
          have hl6 : (xs ++ [t]).length = xs.length + 1 := by simp
          rw [hl6] at ho5 hc5 ⊢
          go_wp2_with fail
          refine (clone_c A5 (xs.length + 1) c5 _ _ (xs ++ [t]) w5 hl6.symm (by have := hn'.out; have := hle.out; simp; omega) hs5 (Nat.le_refl _)).mono ?_
          rintro e w6 ⟨A6, rfl, ho6', hb6⟩
          have hB6 : Below w.heap.size w w6 := hB5.trans (hb6.mono hB5.size)
          have ho6 := ho6'.mono hB5.size
          rw [← hn'.out] at ho6 ⊢
          obtain ⟨g, rfl, hg1, hg2⟩ := ho6.addrAt (k := 0) (by omega)
          dsimp only
          have hbn : n ≤ 20 := hle.out
          have h00 : Hid (n = xs.length) := hn'
          go_wp2
          go_loopw [7] (fun i wr => ∃ k : Nat, ∃ ys : List Tm, k < n + 1 ∧ i = .int .i64 k ∧ Hid (n + 1 = ys.length) ∧ Own encT 3 31 wr w.heap.size (.slice (some ⟨g, 0, none⟩) (n + 1) (n + 1)) ys ∧ Hid (riseAt k ys = riseAt n (xs ++ [t])) ∧ Below w.heap.size w wr) (fun i _ => (intOf i).toNat)
          case atStart => exact ⟨n, xs ++ [t], by omega, by go_num, hide (by have := hn'.out; simp; omega), ho6, hide rfl, hB6⟩
          case round =>
            obtain ⟨k, ys, hk, rfl, hm, hor, he, hbr⟩ := hrel
            have hlx : k < ys.length := by have := hm.out; omega
            have hlp : (k - 1) / 2 < ys.length := by omega
            obtain ⟨a1, a2, a3⟩ := hor.tm hlx
            obtain ⟨p1, p2, p3⟩ := hor.tm hlp
            clear g1 g2 g3 d1 d2 d3 c1 c2 c3 b1 b2 b3
            by_cases hk0 : 0 < k
            · have e5 : decide (0 < (k : Int)) = true := by simpa using hk0
              cases e6 : ltT ys[k] ys[(k - 1) / 2]
              · go_wp2
                refine wp_region_T (fun _ => True) [] [] [] [0, 1, 2, 3, 4, 5, 6, 7, 8, 9, 10, 11, 12, 13, 14] (by kernel_rfl) (by kernel_rfl) (by kernel_rfl) trivial ?_; simp only [pickL, List.getElem?_cons_succ, List.getElem?_cons_zero]
                go_wp2_with (first
                  | ((with_reducible refine wpT_q0 ?_ ?_ ?_ ?_); (focus rfl); (focus rfl); (focus rfl); intro K hK) | ((with_reducible refine wpT_x0 ?_ ?_ ?_); (focus rfl); (focus rfl); intro K hK) | ((with_reducible refine wpT_noL ?_ ?_); (focus (first | exact wanted_no _ _ _ rfl rfl rfl | exact wanted_un _ _ _ rfl rfl rfl)); simp only [setO, List.set_cons_succ, List.set_cons_zero]) | ((with_reducible refine wpT_q1 ?_ ?_ ?_ ?_); (focus exact wanted_yes _ _ _ rfl rfl rfl); (focus rfl); (focus rfl); intro K hK) | ((with_reducible refine wpT_x1 ?_ ?_ ?_); (focus exact wanted_yes _ _ _ rfl rfl rfl); (focus rfl); intro K hK) | ((with_reducible refine wpT_nil ?_); try dsimp only)
                  | (go_at_call 38; refine (before_t ys[k] ys[(k - 1) / 2] _).mono ?_; rintro e w7 ⟨rfl, hb7⟩; dsimp only))
                have ho7 := hor.drew.below hb7 (Nat.le_refl _)
                rw [riseAt_stop hlx e6] at he
                refine bodyPost_ret (v := .tuple #[.slice (some ⟨g, 0, none⟩) (n + 1) (n + 1), .bool true]) (by simp [results, Try.results18, go_sem]) rfl ⟨.slice (some ⟨g, 0, none⟩) (n + 1) (n + 1), ?_, ?_, ?_⟩
                · rw [hy'.out]
                · rw [hy'.out, ← hn'.out]; dsimp only; rw [← he.out]; exact ho7
                · exact hbr.drew.trans (hb7.mono hbr.size)
              · go_wp2
                refine wp_region_T (fun _ => True) [] [] [] [0, 1, 2, 3, 4, 5, 6, 7, 8, 9, 10, 11, 12, 13, 14] (by kernel_rfl) (by kernel_rfl) (by kernel_rfl) trivial ?_; simp only [pickL, List.getElem?_cons_succ, List.getElem?_cons_zero]
                go_wp2_with (first
                  | ((with_reducible refine wpT_q0 ?_ ?_ ?_ ?_); (focus rfl); (focus rfl); (focus rfl); intro K hK) | ((with_reducible refine wpT_x0 ?_ ?_ ?_); (focus rfl); (focus rfl); intro K hK) | ((with_reducible refine wpT_noL ?_ ?_); (focus (first | exact wanted_no _ _ _ rfl rfl rfl | exact wanted_un _ _ _ rfl rfl rfl)); simp only [setO, List.set_cons_succ, List.set_cons_zero]) | ((with_reducible refine wpT_q1 ?_ ?_ ?_ ?_); (focus exact wanted_yes _ _ _ rfl rfl rfl); (focus rfl); (focus rfl); intro K hK) | ((with_reducible refine wpT_x1 ?_ ?_ ?_); (focus exact wanted_yes _ _ _ rfl rfl rfl); (focus rfl); intro K hK) | ((with_reducible refine wpT_nil ?_); try dsimp only)
                  | (go_at_call 38; refine (before_t ys[k] ys[(k - 1) / 2] _).mono ?_; rintro e w7 ⟨rfl, hb7⟩; dsimp only))
                have ho7 := hor.drew.below hb7 (Nat.le_refl _)
                have hB7 : Below w.heap.size w w7 := hbr.drew.trans (hb7.mono hbr.size)
                have f0 := ho7.frozen (k * 3)
                have f1 := ho7.frozen (k * 3 + 1)
                have f2 := ho7.frozen (k * 3 + 2)
                have y0 := ho7.frozen ((k - 1) / 2 * 3)
                have y1 := ho7.frozen ((k - 1) / 2 * 3 + 1)
                have y2 := ho7.frozen ((k - 1) / 2 * 3 + 2)
                obtain ⟨a1, a2, a3⟩ := ho7.tm hlx
                obtain ⟨p1, p2, p3⟩ := ho7.tm hlp
                refine wp_region_T (fun _ => True) [] [] [57, 58] [0, 1, 2, 3, 4, 5, 6, 7, 8, 9, 10, 11, 12, 13, 14, 15, 16, 17, 18, 19] (by kernel_rfl) (by kernel_rfl) (by kernel_rfl) trivial ?_; simp only [pickL, List.getElem?_cons_succ, List.getElem?_cons_zero]
                go_wp2_with (first
                  | ((with_reducible refine wpT_q0 ?_ ?_ ?_ ?_); (focus rfl); (focus rfl); (focus rfl); intro K hK) | ((with_reducible refine wpT_b ?_ ?_); (focus (exact ⟨_, _, _, _, _, _, _, _, _, rfl, rfl, rfl, rfl, rfl, rfl⟩)); intro K hK) | ((with_reducible refine wpT_x0 ?_ ?_ ?_); (focus rfl); (focus rfl); intro K hK) | ((with_reducible refine wpT_noL ?_ ?_); (focus (first | exact wanted_no _ _ _ rfl rfl rfl | exact wanted_un _ _ _ rfl rfl rfl)); simp only [setO, List.set_cons_succ, List.set_cons_zero]) | ((with_reducible refine wpT_q1 ?_ ?_ ?_ ?_); (focus exact wanted_yes _ _ _ rfl rfl rfl); (focus rfl); (focus rfl); intro K hK) | ((with_reducible refine wpT_x1 ?_ ?_ ?_); (focus exact wanted_yes _ _ _ rfl rfl rfl); (focus rfl); intro K hK) | ((with_reducible refine wpT_nil ?_); try dsimp only)
                  | fail)
                go_roundw
                case rel =>
                  refine ⟨(k - 1) / 2, swap ys k ((k - 1) / 2) hlx hlp, by omega, by go_num, hide (by rw [swap_len]; exact hm.out), ?_, hide ((riseAt_step hk0 hlx e6).symm.trans he.out), ?_⟩
                  · exact (ho7.swapTm hk (by omega) hlx hlp).drew
                  · exact (below_putCells (encT ys[k]) (below_putCells (encT ys[(k - 1) / 2]) hB7 hg1) hg1).drew
                case measure => simp [intOf]; omega
            · have e5 : decide (0 < (k : Int)) = false := by simpa using hk0
              go_wp2
              refine wp_region_T (fun _ => True) [] [] [] [0, 1, 2, 3, 4, 5, 6, 7, 8, 9, 10, 11, 12, 13, 14] (by kernel_rfl) (by kernel_rfl) (by kernel_rfl) trivial ?_; simp only [pickL, List.getElem?_cons_succ, List.getElem?_cons_zero]
              go_wp2_with (first
                | ((with_reducible refine wpT_q0 ?_ ?_ ?_ ?_); (focus rfl); (focus rfl); (focus rfl); intro K hK) | ((with_reducible refine wpT_x0 ?_ ?_ ?_); (focus rfl); (focus rfl); intro K hK) | ((with_reducible refine wpT_noL ?_ ?_); (focus (first | exact wanted_no _ _ _ rfl rfl rfl | exact wanted_un _ _ _ rfl rfl rfl)); simp only [setO, List.set_cons_succ, List.set_cons_zero]) | ((with_reducible refine wpT_q1 ?_ ?_ ?_ ?_); (focus exact wanted_yes _ _ _ rfl rfl rfl); (focus rfl); (focus rfl); intro K hK) | ((with_reducible refine wpT_x1 ?_ ?_ ?_); (focus exact wanted_yes _ _ _ rfl rfl rfl); (focus rfl); intro K hK) | ((with_reducible refine wpT_nil ?_); try dsimp only)
                | fail)
              rw [riseAt_zero hk0] at he
              refine bodyPost_ret (v := .tuple #[.slice (some ⟨g, 0, none⟩) (n + 1) (n + 1), .bool true]) (by simp [results, Try.results18, go_sem]) rfl ⟨.slice (some ⟨g, 0, none⟩) (n + 1) (n + 1), ?_, ?_, ?_⟩
              · rw [hy'.out]
              · rw [hy'.out, ← hn'.out]; dsimp only; rw [← he.out]; exact hor.drew
              · exact hbr.drew
      · have hno : addL xs t = (xs, false) := addL_no e1 (.inr (.inl (by simpa using e3)))
        go_wp2
        refine bodyPost_ret (v := .tuple #[.slice A' n n, .bool false]) (by simp [results, Try.results18, go_sem]) rfl ⟨.slice A' n n, ?_, ?_, ?_⟩
        · rw [hno]
        · rw [hno]; exact ho4
        · exact hB4
end Go.Proofs.Ytaklfalkpkifmaa
