/-
  What 'LAc' rests on (texts of this seat put together: NC).
  Conditions: none.
-/
import Derived.Test.YtopmbnnjhoinkaaGreatZZ6
namespace Go.Proofs.YtopmbnnjhoinkaaGreat
open Go.RowKit Rg
set_option linter.unusedVariables false
set_option linter.unusedSimpArgs false
set_option maxHeartbeats 1000000
theorem below_drewN (w : World) (q : Nat) : Below w.heap.size w (w.drewN q) := ⟨rfl, rfl, rfl, Nat.le_refl _, fun _ _ => rfl⟩
theorem below_drewN' {B : Nat} {a w : World} (h : Below B a w) (q : Nat) : Below B a (w.drewN q) := ⟨h.os, h.tape, h.output, h.size, h.block⟩
theorem run_neq_claim (r s : ClaimT) (w : World) : (binOp .neq 41 (.agg #[.int .i64 r.1, .int .i64 r.2.1, .int .i64 r.2.2.1, .int .i64 r.2.2.2.1, .int .i64 r.2.2.2.2.1, .int .i64 r.2.2.2.2.2.1, .int .i64 r.2.2.2.2.2.2]) (.agg #[.int .i64 s.1, .int .i64 s.2.1, .int .i64 s.2.2.1, .int .i64 s.2.2.2.1, .int .i64 s.2.2.2.2.1, .int .i64 s.2.2.2.2.2.1, .int .i64 s.2.2.2.2.2.2])).run Tryz.prog w = .ok (.bool (!decide (r = s))) w := by
  obtain ⟨p, q, a, b, c, x, y⟩ := r
  obtain ⟨p', q', a', b', c', x', y'⟩ := s
  go_simp
  by_cases h0 : p = p' <;> by_cases h6 : q = q' <;> by_cases h1 : a = a' <;> by_cases h2 : b = b' <;> by_cases h3 : c = c' <;> by_cases h4 : x = x' <;> by_cases h5 : y = y' <;> simp [*]
theorem take_ne {α : Type} {xs ys : List α} {k : Nat} (hx : k < xs.length) (hy : k < ys.length) (h : ¬ xs[k] = ys[k]) : ¬ xs = ys := fun e => by subst e; exact h rfl
theorem l3SameClaims_c (A B : Option Addr) (n m c d lo hi lo' hi' : Nat) (xs ys : List ClaimT) (w : World) (hs : RdN 7 clR w lo hi A n c xs) (hs' : RdN 7 clR w lo' hi' B m d ys) :
    Calls Tryz.prog 74 #[.slice A n c, .slice B m d] w fun e w' => e = .returned (.bool (decide (xs = ys))) ∧ ∃ q, w' = w.drewN q := by
  have hn' := hide hs.len
  have hm' := hide hs'.len
  have hc1 := hs.cap
  have hc2 := hs.max
  have hd1 := hs'.cap
  have hd2 := hs'.max
  unfold maxLen at hc2 hd2
  by_cases hnm : n = m
  · subst hnm
    go_enter Tryz.func74, Tryz.ntmps74
    go_wp2
    go_loopw [5] (fun i wr => ∃ k : Nat, k ≤ n ∧ i = .int .i64 k ∧ Hid (xs.take k = ys.take k) ∧ ∃ q, wr = w.drewN q) (fun i _ => n - (intOf i).toNat)
    case atStart => exact ⟨0, Nat.zero_le _, rfl, rfl, 0, rfl⟩
    case round =>
      obtain ⟨k, hk, rfl, he, q, rfl⟩ := hrel
      by_cases hlt : k < n
      · have hlx : k < xs.length := by have := hn'.out; omega
        have hly : k < ys.length := by have := hm'.out; omega
        obtain ⟨b, off, rfl, hlo, hbh⟩ := hs.addr hlx
        obtain ⟨b', off', rfl, hlo', hbh'⟩ := hs'.addr hly
        obtain ⟨a1, a2, a3, a4, a5, a6, a7⟩ := hs.claim hlx
        obtain ⟨b1, b2, b3, b4, b5, b6, b7⟩ := hs'.claim hly
        have hne := fun w => run_neq_claim xs[k] ys[k] w
        cases e : decide (xs[k] = ys[k])
        · simp only [e] at hne
          have e' := hide (of_decide_eq_false e)
          go_wp2
          refine wp_region_T (fun _ => True) [] [] [] [0, 1, 2, 3, 4, 5, 6, 7, 8] (by kernel_rfl) (by kernel_rfl) (by kernel_rfl) trivial ?_; simp only [pickL, List.getElem?_cons_succ, List.getElem?_cons_zero]
          go_wp2_with (first
            | ((refine no_implicit_lambda% (g24_ ?_)); intro K hK) | (refine no_implicit_lambda% (g1_ ?_)) | ((refine no_implicit_lambda% (g2_ ?_)); intro K hK) | (refine no_implicit_lambda% (g3_ ?_))
            | fail)
          go_ret
          exact ⟨by simp [take_ne hlx hly e'.out], q + 1, rfl⟩
        · simp only [e] at hne
          have e' := hide (of_decide_eq_true e)
          go_wp2
          refine wp_region_T (fun _ => True) [] [] [] [0, 1, 2, 3, 4, 5, 6, 7, 8] (by kernel_rfl) (by kernel_rfl) (by kernel_rfl) trivial ?_; simp only [pickL, List.getElem?_cons_succ, List.getElem?_cons_zero]
          go_wp2_with (first
            | ((refine no_implicit_lambda% (g24_ ?_)); intro K hK) | (refine no_implicit_lambda% (g1_ ?_)) | ((refine no_implicit_lambda% (g2_ ?_)); intro K hK) | (refine no_implicit_lambda% (g3_ ?_))
            | fail)
          go_roundw
          case rel => exact ⟨k + 1, by omega, by go_num, take_eq_succ xs ys k hlx hly he.out e'.out, q + 1, rfl⟩
          case measure => simp [intOf]; omega
      · obtain rfl : k = n := by omega
        go_wp2
        go_ret
        have e1 := he.out
        rw [List.take_of_length_le (by rw [hn'.out]; omega), List.take_of_length_le (by rw [hm'.out]; omega)] at e1
        exact ⟨by simp [e1], q, rfl⟩
  · have hne : ¬ xs = ys := fun h => by subst h; have := hn'.out; have := hm'.out; omega
    have hne' : ((n : Int) != (m : Int)) = true := by simp; omega
    go_enter Tryz.func74, Tryz.ntmps74
    go_wp2
    go_ret
    exact ⟨by simp [hne], 0, rfl⟩
theorem equalClaims_c (A B : Option Addr) (n m c d lo hi lo' hi' : Nat) (xs ys : List ClaimT) (w : World) (hs : RdN 7 clR w lo hi A n c xs) (hs' : RdN 7 clR w lo' hi' B m d ys) :
    Calls Tryz.prog 48 #[.slice A n c, .slice B m d] w fun e w' => e = .returned (.bool (decide (xs = ys))) ∧ ∃ q, w' = w.drewN q := by
  have hn' := hide hs.len
  have hm' := hide hs'.len
  have hc1 := hs.cap
  have hc2 := hs.max
  have hd1 := hs'.cap
  have hd2 := hs'.max
  unfold maxLen at hc2 hd2
  by_cases hnm : n = m
  · subst hnm
    go_enter Tryz.func48, Tryz.ntmps48
    go_wp2
    go_loopw [13, 5] (fun i _ wr => ∃ k : Nat, k ≤ n ∧ i = .int .i64 k ∧ Hid (xs.take k = ys.take k) ∧ ∃ q, wr = w.drewN q) (fun i _ _ => n - (intOf i).toNat)
    case atStart => exact ⟨0, Nat.zero_le _, rfl, rfl, 0, rfl⟩
    case round =>
      obtain ⟨k, hk, rfl, he, q, rfl⟩ := hrel
      by_cases hlt : k < n
      · have hlx : k < xs.length := by have := hn'.out; omega
        have hly : k < ys.length := by have := hm'.out; omega
        obtain ⟨b, off, rfl, hlo, hbh⟩ := hs.addr hlx
        obtain ⟨b', off', rfl, hlo', hbh'⟩ := hs'.addr hly
        obtain ⟨a1, a2, a3, a4, a5, a6, a7⟩ := hs.claim hlx
        obtain ⟨b1, b2, b3, b4, b5, b6, b7⟩ := hs'.claim hly
        have hne := fun w => run_neq_claim xs[k] ys[k] w
        cases e : decide (xs[k] = ys[k])
        · simp only [e] at hne
          have e' := hide (of_decide_eq_false e)
          go_wp2
          refine wp_region_T (fun _ => True) [] [] [] [0, 1, 2, 3, 4, 5, 6, 7, 8] (by kernel_rfl) (by kernel_rfl) (by kernel_rfl) trivial ?_; simp only [pickL, List.getElem?_cons_succ, List.getElem?_cons_zero]
          go_wp2_with (first
            | ((refine no_implicit_lambda% (g24_ ?_)); intro K hK) | (refine no_implicit_lambda% (g1_ ?_)) | ((refine no_implicit_lambda% (g2_ ?_)); intro K hK) | (refine no_implicit_lambda% (g3_ ?_))
            | fail)
          go_ret
          exact ⟨by simp [take_ne hlx hly e'.out], q + 1, rfl⟩
        · simp only [e] at hne
          have e' := hide (of_decide_eq_true e)
          go_wp2
          refine wp_region_T (fun _ => True) [] [] [] [0, 1, 2, 3, 4, 5, 6, 7, 8] (by kernel_rfl) (by kernel_rfl) (by kernel_rfl) trivial ?_; simp only [pickL, List.getElem?_cons_succ, List.getElem?_cons_zero]
          go_wp2_with (first
            | ((refine no_implicit_lambda% (g24_ ?_)); intro K hK) | (refine no_implicit_lambda% (g1_ ?_)) | ((refine no_implicit_lambda% (g2_ ?_)); intro K hK) | (refine no_implicit_lambda% (g3_ ?_))
            | fail)
          go_roundw
          case rel => exact ⟨k + 1, by omega, by go_num, take_eq_succ xs ys k hlx hly he.out e'.out, q + 1, rfl⟩
          case measure => simp [intOf]; omega
      · obtain rfl : k = n := by omega
        go_wp2
        go_ret
        have e1 := he.out
        rw [List.take_of_length_le (by rw [hn'.out]; omega), List.take_of_length_le (by rw [hm'.out]; omega)] at e1
        exact ⟨by simp [e1], q, rfl⟩
  · have hne : ¬ xs = ys := fun h => by subst h; have := hn'.out; have := hm'.out; omega
    have hne' : ((n : Int) != (m : Int)) = true := by simp; omega
    go_enter Tryz.func48, Tryz.ntmps48
    go_wp2
    go_ret
    exact ⟨by simp [hne], 0, rfl⟩
theorem vote_ext {s t : VoteT} (h1 : s.1 = t.1) (h2 : s.2 = t.2) : s = t := Prod.ext h1 h2
theorem l3SameVotes_c (A B : Option Addr) (n m c d lo hi lo' hi' : Nat) (xs ys : List VoteT) (w : World) (hs : RdN 2 voteR w lo hi A n c xs) (hs' : RdN 2 voteR w lo' hi' B m d ys) :
    Calls Tryz.prog 75 #[.slice A n c, .slice B m d] w fun e w' => e = .returned (.bool (decide (xs = ys))) ∧ ∃ q, w' = w.drewN q := by
  have hn' := hide hs.len
  have hm' := hide hs'.len
  have hc1 := hs.cap
  have hc2 := hs.max
  have hd1 := hs'.cap
  have hd2 := hs'.max
  unfold maxLen at hc2 hd2
  by_cases hnm : n = m
  · subst hnm
    go_enter Tryz.func75, Tryz.ntmps75
    go_wp2
    go_loopw [5] (fun i wr => ∃ k : Nat, k ≤ n ∧ i = .int .i64 k ∧ Hid (xs.take k = ys.take k) ∧ ∃ q, wr = w.drewN q) (fun i _ => n - (intOf i).toNat)
    case atStart => exact ⟨0, Nat.zero_le _, rfl, rfl, 0, rfl⟩
    case round =>
      obtain ⟨k, hk, rfl, he, q, rfl⟩ := hrel
      by_cases hlt : k < n
      · have hlx : k < xs.length := by have := hn'.out; omega
        have hly : k < ys.length := by have := hm'.out; omega
        obtain ⟨b, off, rfl, hlo, hbh⟩ := hs.addr hlx
        obtain ⟨b', off', rfl, hlo', hbh'⟩ := hs'.addr hly
        obtain ⟨A1, n1, c1, a1, a2, r1⟩ := hs.vote hlx
        obtain ⟨A2, n2, c2, b1, b2, r2⟩ := hs'.vote hly
        have hcl := fun W (h : Below w.heap.size w W) (h1 : RdN 7 clR W lo hi A1 n1 c1 xs[k].2) (h2 : RdN 7 clR W lo' hi' A2 n2 c2 ys[k].2) => l3SameClaims_c A1 A2 n1 n2 c1 c2 lo hi lo' hi' xs[k].2 ys[k].2 W h1 h2
        have hcl' := hide hcl
        clear hcl
        have rr1 : RdN 7 clR (w.drewN q).drew lo hi A1 n1 c1 xs[k].2 := r1.keep (flat_kept _) (fun _ _ _ => rfl)
        have rr2 : RdN 7 clR (w.drewN q).drew lo' hi' A2 n2 c2 ys[k].2 := r2.keep (flat_kept _) (fun _ _ _ => rfl)
        cases e0 : (xs[k].1 == ys[k].1)
        · have e' : Hid (¬ xs[k] = ys[k]) := hide (fun h => by rw [h] at e0; simp at e0)
          have e1 : (xs[k].1 != ys[k].1) = true := by simp [bne, e0]
          go_wp2
          refine wp_region_T (fun _ => True) [] [] [] [0, 1, 2, 3, 4, 5, 6, 7, 8, 9, 10, 11, 12, 13, 14, 15, 16, 17, 18, 19, 20, 21, 22, 23, 24] (by kernel_rfl) (by kernel_rfl) (by kernel_rfl) trivial ?_; simp only [pickL, List.getElem?_cons_succ, List.getElem?_cons_zero]
          go_wp2_with (first
            | ((refine no_implicit_lambda% (g24_ ?_)); intro K hK) | (refine no_implicit_lambda% (g1_ ?_)) | ((refine no_implicit_lambda% (g2_ ?_)); intro K hK) | (refine no_implicit_lambda% (g3_ ?_))
            | fail)
          go_ret
          exact ⟨by simp [take_ne hlx hly e'.out], q + 1, rfl⟩
        · have e1 : (xs[k].1 != ys[k].1) = false := by simp [bne, e0]
          have e0' := hide e0
          go_wp2
          cases e : decide (xs[k].2 = ys[k].2)
          · have e' : Hid (¬ xs[k] = ys[k]) := hide (fun h => of_decide_eq_false e (by rw [h]))
            refine wp_region_T (fun _ => True) [] [] [] [0, 1, 2, 3, 4, 5, 6, 7, 8, 9, 10, 11, 12, 13, 14, 15, 16, 17, 18, 19, 20, 21, 22, 23, 24] (by kernel_rfl) (by kernel_rfl) (by kernel_rfl) trivial ?_; simp only [pickL, List.getElem?_cons_succ, List.getElem?_cons_zero]
            go_wp2_with (first
              | ((refine no_implicit_lambda% (g24_ ?_)); intro K hK) | (refine no_implicit_lambda% (g1_ ?_)) | ((refine no_implicit_lambda% (g2_ ?_)); intro K hK) | (refine no_implicit_lambda% (g3_ ?_))
              | (go_at_call 74; refine (hcl'.out _ (below_drewN' (below_drewN w q) 1) rr1 rr2).mono ?_; rintro e w1 ⟨rfl, q1, rfl⟩; rw [e])
              | fail)
            go_ret
            exact ⟨by simp [take_ne hlx hly e'.out], q + 1 + q1, rfl⟩
          · have e' : Hid (xs[k] = ys[k]) := hide (vote_ext (by simpa using e0'.out) (of_decide_eq_true e))
            refine wp_region_T (fun _ => True) [] [] [] [0, 1, 2, 3, 4, 5, 6, 7, 8, 9, 10, 11, 12, 13, 14, 15, 16, 17, 18, 19, 20, 21, 22, 23, 24] (by kernel_rfl) (by kernel_rfl) (by kernel_rfl) trivial ?_; simp only [pickL, List.getElem?_cons_succ, List.getElem?_cons_zero]
            go_wp2_with (first
              | ((refine no_implicit_lambda% (g24_ ?_)); intro K hK) | (refine no_implicit_lambda% (g1_ ?_)) | ((refine no_implicit_lambda% (g2_ ?_)); intro K hK) | (refine no_implicit_lambda% (g3_ ?_))
              | (go_at_call 74; refine (hcl'.out _ (below_drewN' (below_drewN w q) 1) rr1 rr2).mono ?_; rintro e w1 ⟨rfl, q1, rfl⟩; rw [e])
              | fail)
            go_roundw
            case rel => exact ⟨k + 1, by omega, by go_num, take_eq_succ xs ys k hlx hly he.out e'.out, q + 1 + q1, rfl⟩
            case measure => simp [intOf]; omega
      · obtain rfl : k = n := by omega
        go_wp2
        go_ret
        have e1 := he.out
        rw [List.take_of_length_le (by rw [hn'.out]; omega), List.take_of_length_le (by rw [hm'.out]; omega)] at e1
        exact ⟨by simp [e1], q, rfl⟩
  · have hne : ¬ xs = ys := fun h => by subst h; have := hn'.out; have := hm'.out; omega
    have hne' : ((n : Int) != (m : Int)) = true := by simp; omega
    go_enter Tryz.func75, Tryz.ntmps75
    go_wp2
    go_ret
    exact ⟨by simp [hne], 0, rfl⟩
end Go.Proofs.YtopmbnnjhoinkaaGreat
