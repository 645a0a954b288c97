/-
  'DrawQueueSort'.
-/
import Derived.Test.YtaklfalkpkifmaaQYc
namespace Go.Proofs.Ytaklfalkpkifmaa
open Go.RowKit Rg
set_option linter.unusedVariables false

set_option maxHeartbeats 2000000 in
theorem DrawQueueSort_c (A : Option Addr) (n c : Nat) (bs : List Int) (w : World) (hn : n = bs.length) (hc : n ≤ c) (hcm : c ≤ maxLen) (hs : Sl encU 1 w 0 w.heap.size A bs) (hb : ∀ b ∈ bs, 0 ≤ b ∧ b < 256) :
    Calls Try.prog 32 #[.slice A n c] w fun e w' => ∃ (v : Value) (q : List Tm), e = .returned v ∧ q.length ≤ 12 ∧ Own encT 3 31 w' w.heap.size v q ∧ Below w.heap.size w w' := by
  have hn' := hide hn
  have hb' := hide hb
  clear hn hb
  go_enter Try.func32, Try.ntmps32
  go_wp2_with fail
  refine (l20Open_c A n c bs w hn'.out hc hcm hs hb'.out).mono ?_
  rintro e w1 ⟨rfl, hr1, hB1⟩
  have hb2 := (Below.refl w1.heap.size w1).alloc (Nat.le_refl _) (.cells #[] 31)
  have ho2 := own_empty encT 3 31 w1
  have hr2 := hr1.keep hb2
  have hl1 : w.heap.size < w1.heap.size := hr1.lt
  have hB2 := hB1.trans (hb2.mono hB1.size)
  go_wp2_with fail
  generalize w1.alloc (.cells #[] 31) = w2 at *
  refine (pick_c _ _ 12 w2 hr2 (by omega) (by omega)).mono ?_
  rintro e w3 ⟨N, rfl, hN, hr3, h3⟩
  have hN12 : N ≤ 11 := by have := hN.1 (by omega); omega
  have ho3 := ho2.only h3 (Nat.le_refl _) (fun b hb e => by injection e with e; have := (ho2.lt b hb).1; omega)
  have hB3 := hB2.trans (h3.toBelow hB2.size (fun k hk => by injection hk with hk; omega))
  have hl3 : w1.heap.size ≤ w3.heap.size := by have := hb2.size; have := h3.size; omega
  clear hN h3 hb2 ho2 hr2 hr1
  go_wp2_with fail
  go_loopw [4, 5, 6, 7, 8] (fun qv mv _ _ _ wr => ∃ (m : Nat) (q : List Tm), mv = .int .i64 (m : Int) ∧ m ≤ 11 ∧ Hid (q.length + m ≤ 12) ∧ Own encT 3 31 wr w1.heap.size qv q ∧ Rd wr w.heap.size (0 + 1 + 6 * (11 - m)) ∧ Below w.heap.size w wr ∧ w1.heap.size ≤ wr.heap.size) (fun _ mv _ _ _ _ => (intOf mv).toNat)
  case atStart => exact ⟨N, [], rfl, hN12, hide (by simp; omega), ho3, hr3.mono (by omega), hB3, hl3⟩
  case round =>
    obtain ⟨m, q, rfl, hm, hql, hoq, hrr, hbr, hlr⟩ := hrel
    obtain ⟨Aq, cq, rfl, hcq1, hcq2, hsq⟩ := hoq.sl encT_len
    have hqb : q.length ≤ 12 := by have := hql.out; omega
    have hne : ∀ b, (Value.slice Aq q.length cq).ownBlock = some b → some w.heap.size ≠ some b := fun b hb e => by injection e with e; have := (hoq.lt b hb).1; omega
    by_cases hm0 : 0 < m
    · have d1 : decide (0 < (m : Int)) = true := by simpa using hm0
      go_wp2_with fail
      refine (l20Timed_c _ _ wr hrr (by omega)).mono ?_
      rintro e w4 ⟨t, rfl, hr4, h4⟩
      have hq4 := hoq.only h4 (Nat.le_refl _) hne
      have hB4 := hbr.trans (h4.toBelow hbr.size (fun k hk => by injection hk with hk; omega))
      have hA5 := (Below.refl w4.heap.size w4).alloc (Nat.le_refl _) (.cells #[.int .i64 t.1, .int .i64 t.2.1, .int .i64 t.2.2] 31)
      have hx5 := Box3.made w4 t.1 t.2.1 t.2.2 31
      have hq5 := hq4.alloc (.cells #[.int .i64 t.1, .int .i64 t.2.1, .int .i64 t.2.2] 31)
      have hr5 := hr4.keep hA5
      have hB5 := hB4.trans (hA5.mono hB4.size)
      have hl4 : w1.heap.size ≤ w4.heap.size := Nat.le_trans hlr h4.size
      have hl5 : w4.heap.size ≤ (w4.alloc (.cells #[.int .i64 t.1, .int .i64 t.2.1, .int .i64 t.2.2] 31)).heap.size := hA5.size
      clear hA5 h4 hq4
      go_wp2_with fail
      generalize w4.alloc (.cells #[.int .i64 t.1, .int .i64 t.2.1, .int .i64 t.2.2] 31) = w5 at *
      go_loopw [7, 8] (fun bv iv wr => ∃ (k : Nat) (b : Bool), k ≤ q.length ∧ iv = .int .i64 k ∧ bv = .bool b ∧ Below w5.heap.size w5 wr) (fun _ iv _ => q.length - (intOf iv).toNat)
      case atStart => exact ⟨0, false, Nat.zero_le _, rfl, rfl, Below.refl _ _⟩
      case round =>
        obtain ⟨k, bb, hk, rfl, rfl, hbj⟩ := hrel
        have hqj := hq5.below hbj (Nat.le_refl _)
        have hxj := hx5.below hbj
        have hrj := hr5.keep hbj
        have hBj := hB5.trans (hbj.mono hB5.size)
        by_cases hlt : k < q.length
        · obtain ⟨gq, rfl, hg1, hg2⟩ := hqj.addrAt hlt
          obtain ⟨a1, a2, a3⟩ := hqj.tm hlt
          have hlx := hxj.lt
          obtain ⟨y0, y1, y2, _⟩ := hxj
          cases bb
          · go_wp2
            refine wp_region_T (fun _ => True) [] [] [] [0, 1, 2, 3, 4, 5, 6, 7, 8, 9] (by kernel_rfl) (by kernel_rfl) (by kernel_rfl) trivial ?_; simp only [pickL, List.getElem?_cons_succ, List.getElem?_cons_zero]
            go_wp2_with (first
              | ((with_reducible refine wpT_q0 ?_ ?_ ?_ ?_); (focus rfl); (focus rfl); (focus rfl); intro K hK) | ((with_reducible refine wpT_x0 ?_ ?_ ?_); (focus rfl); (focus rfl); intro K hK) | ((with_reducible refine wpT_noL ?_ ?_); (focus (first | exact wanted_no _ _ _ rfl rfl rfl | exact wanted_un _ _ _ rfl rfl rfl)); simp only [setO, List.set_cons_succ, List.set_cons_zero]) | ((with_reducible refine wpT_q1 ?_ ?_ ?_ ?_); (focus exact wanted_yes _ _ _ rfl rfl rfl); (focus rfl); (focus rfl); intro K hK) | ((with_reducible refine wpT_x1 ?_ ?_ ?_); (focus exact wanted_yes _ _ _ rfl rfl rfl); (focus rfl); intro K hK) | ((with_reducible refine wpT_nil ?_); try dsimp only)
              | fail)
            all_goals
              go_roundw
              case rel => exact ⟨k + 1, _, by omega, by go_num, rfl, hbj.drew⟩
              case measure => simp [intOf]; omega
          · go_wp2
            refine wp_region_T (fun _ => True) [] [] [] [0, 1, 2, 3, 4, 5, 6, 7, 8, 9] (by kernel_rfl) (by kernel_rfl) (by kernel_rfl) trivial ?_; simp only [pickL, List.getElem?_cons_succ, List.getElem?_cons_zero]
            go_wp2_with (first
              | ((with_reducible refine wpT_q0 ?_ ?_ ?_ ?_); (focus rfl); (focus rfl); (focus rfl); intro K hK) | ((with_reducible refine wpT_x0 ?_ ?_ ?_); (focus rfl); (focus rfl); intro K hK) | ((with_reducible refine wpT_noL ?_ ?_); (focus (first | exact wanted_no _ _ _ rfl rfl rfl | exact wanted_un _ _ _ rfl rfl rfl)); simp only [setO, List.set_cons_succ, List.set_cons_zero]) | ((with_reducible refine wpT_q1 ?_ ?_ ?_ ?_); (focus exact wanted_yes _ _ _ rfl rfl rfl); (focus rfl); (focus rfl); intro K hK) | ((with_reducible refine wpT_x1 ?_ ?_ ?_); (focus exact wanted_yes _ _ _ rfl rfl rfl); (focus rfl); intro K hK) | ((with_reducible refine wpT_nil ?_); try dsimp only)
              | fail)
            go_roundw
            case rel => exact ⟨k + 1, true, by omega, by go_num, rfl, hbj.drew⟩
            case measure => simp [intOf]; omega
        · obtain rfl : k = q.length := by omega
          cases bb
          · obtain ⟨y0, y1, y2, _⟩ := hxj
            go_wp2_with (at_builtin; refine wpList_app encT_len (by omega) encT_one rfl _ _ 25 rfl 31 _ 24 Try.underlying25 info_T rfl w1.heap.size _ q rfl (hqj.alloc _) 0 _ _ [t] _ _ rfl rfl (sl_one' wr _ t _ rfl) ?h2 ?h3 ?_)
            case h2 => simp [maxLen]; omega
            case h3 => simp; have := hbj.size; omega
            intro v8 w8 ho8 hg8 hb8
            have hA8 := (Below.refl wr.heap.size wr).alloc (Nat.le_refl _) (.cells #[.int .i64 t.1, .int .i64 t.2.1, .int .i64 t.2.2] 31)
            have hr8 := (hrj.keep hA8).below hb8 hl1
            have hB8 := (hBj.trans (hA8.mono hBj.size)).trans (hb8.mono (Nat.le_of_lt hl1))
            go_wp2
            go_roundw
            case rel => exact ⟨m - 1, q ++ [t], by go_num, by omega, hide (by have := hql.out; simp; omega), ho8, hr8.mono (by omega), hB8, by have := hb8.size; simp at this; have := hbj.size; omega⟩
            case measure => simp [intOf]; omega
          · go_wp2_with fail
            refine (pick_c _ _ 12 wr hrj (by omega) (by omega)).mono ?_
            rintro e w6 ⟨k6, rfl, hk6, hr6, h6⟩
            have hx6 := hxj.only h6 (by intro h; injection h with h; omega)
            have hq6 := hqj.only h6 (Nat.le_refl _) hne
            have hB6 := hBj.trans (h6.toBelow hBj.size (fun k hk => by injection hk with hk; omega))
            clear hk6
            by_cases hk0 : k6 = 0
            · have d3 : ((k6 : Int) == 0) = true := by simp [hk0]
              obtain ⟨y0, y1, y2, _⟩ := hx6
              go_wp2_with (at_builtin; refine wpList_app encT_len (by omega) encT_one rfl _ _ 25 rfl 31 _ 24 Try.underlying25 info_T rfl w1.heap.size _ q rfl (hq6.alloc _) 0 _ _ [t] _ _ rfl rfl (sl_one' w6 _ t _ rfl) ?h2 ?h3 ?_)
              case h2 => simp [maxLen]; omega
              case h3 => simp; have := hbj.size; have := h6.size; omega
              intro v8 w8 ho8 hg8 hb8
              have hA8 := (Below.refl w6.heap.size w6).alloc (Nat.le_refl _) (.cells #[.int .i64 t.1, .int .i64 t.2.1, .int .i64 t.2.2] 31)
              have hr8 := (hr6.keep hA8).below hb8 hl1
              have hB8 := (hB6.trans (hA8.mono hB6.size)).trans (hb8.mono (Nat.le_of_lt hl1))
              go_wp2
              go_roundw
              case rel => exact ⟨m - 1, q ++ [t], by go_num, by omega, hide (by have := hql.out; simp; omega), ho8, hr8.mono (by omega), hB8, by have := hb8.size; simp at this; have := hbj.size; have := h6.size; omega⟩
              case measure => simp [intOf]; omega
            · have d3 : ((k6 : Int) == 0) = false := by simpa using hk0
              go_wp2_with fail
              go_roundw
              case rel => exact ⟨m - 1, q, by go_num, by omega, hide (by have := hql.out; omega), hq6, hr6.mono (by omega), hB6, by have := hbj.size; have := h6.size; omega⟩
              case measure => simp [intOf]; omega
    · obtain rfl : m = 0 := by omega
      go_wp2
      go_ret
      exact ⟨_, q, rfl, hqb, hoq.mono hB1.size, hbr⟩
end Go.Proofs.Ytaklfalkpkifmaa
