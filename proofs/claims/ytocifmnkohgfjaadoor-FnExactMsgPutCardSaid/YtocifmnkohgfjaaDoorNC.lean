/-
  Letters: whether claims, votes, letters are the same, in both packages. (Printed by gen_nc.py.)
  Conditions: none.
-/
import Derived.Test.YtocifmnkohgfjaaDoorNP
namespace Go.Proofs.YtocifmnkohgfjaaDoor
open Go.RowKit Rg
set_option linter.unusedVariables false
set_option linter.unusedSimpArgs false

theorem below_drewN (w : World) (q : Nat) : Below w.heap.size w (w.drewN q) := ⟨rfl, rfl, rfl, Nat.le_refl _, fun _ _ => rfl⟩
theorem below_drewN' {B : Nat} {a w : World} (h : Below B a w) (q : Nat) : Below B a (w.drewN q) := ⟨h.os, h.tape, h.output, h.size, h.block⟩
theorem run_neq_claim (r s : ClaimT) (w : World) : (binOp .neq 63 (.agg #[.int .i64 r.1, .int .i64 r.2.1, .int .i64 r.2.2.1, .int .i64 r.2.2.2.1, .int .i64 r.2.2.2.2.1, .int .i64 r.2.2.2.2.2.1, .int .i64 r.2.2.2.2.2.2]) (.agg #[.int .i64 s.1, .int .i64 s.2.1, .int .i64 s.2.2.1, .int .i64 s.2.2.2.1, .int .i64 s.2.2.2.2.1, .int .i64 s.2.2.2.2.2.1, .int .i64 s.2.2.2.2.2.2])).run Tryd.prog w = .ok (.bool (!decide (r = s))) w := by
  obtain ⟨p, q, a, b, c, x, y⟩ := r
  obtain ⟨p', q', a', b', c', x', y'⟩ := s
  go_simp
  by_cases h0 : p = p' <;> by_cases h6 : q = q' <;> by_cases h1 : a = a' <;> by_cases h2 : b = b' <;> by_cases h3 : c = c' <;> by_cases h4 : x = x' <;> by_cases h5 : y = y' <;> simp [*]

theorem take_ne {α : Type} {xs ys : List α} {k : Nat} (hx : k < xs.length) (hy : k < ys.length) (h : ¬ xs[k] = ys[k]) : ¬ xs = ys := fun e => by subst e; exact h rfl

theorem equalClaims_c (A B : Option Addr) (n m c d lo hi lo' hi' : Nat) (xs ys : List ClaimT) (w : World) (hs : RdN 7 clR w lo hi A n c xs) (hs' : RdN 7 clR w lo' hi' B m d ys) :
    Calls Tryd.prog 53 #[.slice A n c, .slice B m d] w fun e w' => e = .returned (.bool (decide (xs = ys))) ∧ ∃ q, w' = w.drewN q := by
  have hn' := hide hs.len
  have hm' := hide hs'.len
  have hc1 := hs.cap
  have hc2 := hs.max
  have hd1 := hs'.cap
  have hd2 := hs'.max
  unfold maxLen at hc2 hd2
  by_cases hnm : n = m
  · subst hnm
    go_enter Tryd.func53, Tryd.ntmps53
    go_wp2
    go_loopw [13, 5] (fun i _ wr => ∃ k : Nat, k ≤ n ∧ i = .int .i64 k ∧ Hid (xs.take k = ys.take k) ∧ ∃ q, wr = w.drewN q) (fun i _ _ => n - (intOf i).toNat)
    case atStart => exact ⟨0, Nat.zero_le _, rfl, rfl, 0, rfl⟩
    case round =>
      obtain ⟨k, hk, rfl, he, q, rfl⟩ := hrel
      by_cases hlt : k < n
      · have hlx : k < xs.length := by have := hn'.out; omega
        have hly : k < ys.length := by have := hm'.out; omega
        obtain ⟨b, off, rfl, hlo, hbh⟩ := hs.addr hlx
        obtain ⟨b', off', rfl, hlo', hbh'⟩ := hs'.addr hly
        obtain ⟨a1, a2, a3, a4, a5, a6, a7⟩ := hs.claim hlx
        obtain ⟨b1, b2, b3, b4, b5, b6, b7⟩ := hs'.claim hly
        have hne := fun w => run_neq_claim xs[k] ys[k] w
        cases e : decide (xs[k] = ys[k])
        · simp only [e] at hne
          have e' := hide (of_decide_eq_false e)
          go_wp2
          refine wp_region_T (fun _ => True) [] [] [] [0, 1, 2, 3, 4, 5, 6, 7, 8] (by kernel_rfl) (by kernel_rfl) (by kernel_rfl) trivial ?_; simp only [pickL, List.getElem?_cons_succ, List.getElem?_cons_zero]
          go_wp2_with (first
            | ((with_reducible refine wpT_q0 ?_ ?_ ?_ ?_); (focus rfl); (focus rfl); (focus rfl); intro K hK) | ((with_reducible refine wpT_x0 ?_ ?_ ?_); (focus rfl); (focus rfl); intro K hK) | ((with_reducible refine wpT_noL ?_ ?_); (focus (first | exact wanted_no _ _ _ rfl rfl rfl | exact wanted_un _ _ _ rfl rfl rfl)); simp only [setO, List.set_cons_succ, List.set_cons_zero]) | ((with_reducible refine wpT_q1 ?_ ?_ ?_ ?_); (focus exact wanted_yes _ _ _ rfl rfl rfl); (focus rfl); (focus rfl); intro K hK) | ((with_reducible refine wpT_x1 ?_ ?_ ?_); (focus exact wanted_yes _ _ _ rfl rfl rfl); (focus rfl); intro K hK) | ((with_reducible refine wpT_nil ?_); try dsimp only)
            | fail)
          go_ret
          exact ⟨by simp [take_ne hlx hly e'.out], q + 1, rfl⟩
        · simp only [e] at hne
          have e' := hide (of_decide_eq_true e)
          go_wp2
          refine wp_region_T (fun _ => True) [] [] [] [0, 1, 2, 3, 4, 5, 6, 7, 8] (by kernel_rfl) (by kernel_rfl) (by kernel_rfl) trivial ?_; simp only [pickL, List.getElem?_cons_succ, List.getElem?_cons_zero]
          go_wp2_with (first
            | ((with_reducible refine wpT_q0 ?_ ?_ ?_ ?_); (focus rfl); (focus rfl); (focus rfl); intro K hK) | ((with_reducible refine wpT_x0 ?_ ?_ ?_); (focus rfl); (focus rfl); intro K hK) | ((with_reducible refine wpT_noL ?_ ?_); (focus (first | exact wanted_no _ _ _ rfl rfl rfl | exact wanted_un _ _ _ rfl rfl rfl)); simp only [setO, List.set_cons_succ, List.set_cons_zero]) | ((with_reducible refine wpT_q1 ?_ ?_ ?_ ?_); (focus exact wanted_yes _ _ _ rfl rfl rfl); (focus rfl); (focus rfl); intro K hK) | ((with_reducible refine wpT_x1 ?_ ?_ ?_); (focus exact wanted_yes _ _ _ rfl rfl rfl); (focus rfl); intro K hK) | ((with_reducible refine wpT_nil ?_); try dsimp only)
            | fail)
          go_roundw
          case rel => exact ⟨k + 1, by omega, by go_num, take_eq_succ xs ys k hlx hly he.out e'.out, q + 1, rfl⟩
          case measure => simp [intOf]; omega
      · obtain rfl : k = n := by omega
        go_wp2
        go_ret
        have e1 := he.out
        rw [List.take_of_length_le (by rw [hn'.out]; omega), List.take_of_length_le (by rw [hm'.out]; omega)] at e1
        exact ⟨by simp [e1], q, rfl⟩
  · have hne : ¬ xs = ys := fun h => by subst h; have := hn'.out; have := hm'.out; omega
    have hne' : ((n : Int) != (m : Int)) = true := by simp; omega
    go_enter Tryd.func53, Tryd.ntmps53
    go_wp2
    go_ret
    exact ⟨by simp [hne], 0, rfl⟩

theorem vote_ext {s t : VoteT} (h1 : s.1 = t.1) (h2 : s.2 = t.2) : s = t := Prod.ext h1 h2
end Go.Proofs.YtocifmnkohgfjaaDoor
