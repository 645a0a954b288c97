/-
  Package laws' functions on claims, votes, letters: sizes, comparisons of what reads alike. (Printed by gen_nm.py.)
  Conditions: none.
-/
import Derived.Test.YtocifmnkohgfjaaDoorNQ
import Derived.Test.YtocifmnkohgfjaaDoorND
namespace Go.Proofs.YtocifmnkohgfjaaDoor
open Go.RowKit Rg
set_option linter.unusedVariables false
set_option linter.unusedSimpArgs false

theorem eqReq_same (t : ReqV) (w : World) : Calls Tryd.prog 20 #[.agg #[.int .i64 t.1, .int .i64 t.2.1, .int .i64 t.2.2.1, .int .i64 t.2.2.2.1, .int .i64 t.2.2.2.2], .agg #[.int .i64 t.1, .int .i64 t.2.1, .int .i64 t.2.2.1, .int .i64 t.2.2.2.1, .int .i64 t.2.2.2.2]] w fun e w' => e = .returned (.bool true) ∧ Below w.heap.size w w' := by
  have := eqReq_c t t w
  simpa using this

theorem eqClaim_same (t : ClaimT) (w : World) : Calls Tryd.prog 49 #[.agg #[.int .i64 t.1, .int .i64 t.2.1, .int .i64 t.2.2.1, .int .i64 t.2.2.2.1, .int .i64 t.2.2.2.2.1, .int .i64 t.2.2.2.2.2.1, .int .i64 t.2.2.2.2.2.2], .agg #[.int .i64 t.1, .int .i64 t.2.1, .int .i64 t.2.2.1, .int .i64 t.2.2.2.1, .int .i64 t.2.2.2.2.1, .int .i64 t.2.2.2.2.2.1, .int .i64 t.2.2.2.2.2.2]] w fun e w' => e = .returned (.bool true) ∧ Below w.heap.size w w' := by
  have hb0 : Below w.heap.size w ((w.alloc (.cells #[.int .i64 t.1, .int .i64 t.2.1, .int .i64 t.2.2.1, .int .i64 t.2.2.2.1, .int .i64 t.2.2.2.2.1, .int .i64 t.2.2.2.2.2.1, .int .i64 t.2.2.2.2.2.2] 63)).alloc (.cells #[.int .i64 t.1, .int .i64 t.2.1, .int .i64 t.2.2.1, .int .i64 t.2.2.2.1, .int .i64 t.2.2.2.2.1, .int .i64 t.2.2.2.2.2.1, .int .i64 t.2.2.2.2.2.2] 63)) := ((Below.refl _ _).alloc (Nat.le_refl _) _).alloc (by simp) _
  have e1 : (t.1 != t.1) = false := by simp
  have e2 : (t.2.1 != t.2.1) = false := by simp
  go_enter Tryd.func49, Tryd.ntmps49
  go_wp2_with fail
  refine (eqReq_same t.2.2 _).mono ?_
  rintro e w1 ⟨rfl, hb1⟩
  go_wp2
  go_ret
  exact ⟨rfl, hb0.trans (hb1.mono hb0.size)⟩

theorem eqClaimS_same {A B : Option Addr} {n m c d lo hi lo' hi' : Nat} {ts : List ClaimT} {w : World} (hs : RdN 7 clR w lo hi A n c ts) (hs' : RdN 7 clR w lo' hi' B m d ts) (hhi : hi ≤ w.heap.size) (hhi' : hi' ≤ w.heap.size) :
    Calls Tryd.prog 21 #[.slice A n c, .slice B m d] w fun e w' => e = .returned (.bool true) ∧ Below w.heap.size w w' := by
  obtain rfl : n = m := by rw [hs.len, hs'.len]
  have hn' := hide hs.len
  have hc1 := hs.cap
  have hc2 := hs.max
  unfold maxLen at hc2
  go_enter Tryd.func21, Tryd.ntmps21
  go_wp2
  go_loopw [5] (fun i wr => ∃ k : Nat, k ≤ n ∧ i = .int .i64 k ∧ Below w.heap.size w wr) (fun i _ => n - (intOf i).toNat)
  case atStart => exact ⟨0, Nat.zero_le _, rfl, Below.refl _ _⟩
  case round =>
    obtain ⟨k, hk, rfl, hbr⟩ := hrel
    have hzr := hbr.size
    by_cases hlt : k < n
    · have hlx : k < ts.length := by have := hn'.out; omega
      obtain ⟨b, off, rfl, hlo, hbh⟩ := hs.addr hlx
      obtain ⟨b', off', rfl, hlo', hbh'⟩ := hs'.addr hlx
      obtain ⟨a0, a1, a2, a3, a4, a5, a6⟩ := (hs.below (flat_kept _) hbr hhi).claim hlx
      obtain ⟨b0, b1, b2, b3, b4, b5, b6⟩ := (hs'.below (flat_kept _) hbr hhi').claim hlx
      go_wp2
      refine wp_region_T (fun _ => True) [] [] [] [0, 1, 2, 3, 4, 5, 6, 7, 8, 9] (by kernel_rfl) (by kernel_rfl) (by kernel_rfl) trivial ?_; simp only [pickL, List.getElem?_cons_succ, List.getElem?_cons_zero]
      go_wp2_with (first
        | ((with_reducible refine wpT_q0 ?_ ?_ ?_ ?_); (focus rfl); (focus rfl); (focus rfl); intro K hK) | ((with_reducible refine wpT_x0 ?_ ?_ ?_); (focus rfl); (focus rfl); intro K hK) | ((with_reducible refine wpT_noL ?_ ?_); (focus (first | exact wanted_no _ _ _ rfl rfl rfl | exact wanted_un _ _ _ rfl rfl rfl)); simp only [setO, List.set_cons_succ, List.set_cons_zero]) | ((with_reducible refine wpT_q1 ?_ ?_ ?_ ?_); (focus exact wanted_yes _ _ _ rfl rfl rfl); (focus rfl); (focus rfl); intro K hK) | ((with_reducible refine wpT_x1 ?_ ?_ ?_); (focus exact wanted_yes _ _ _ rfl rfl rfl); (focus rfl); intro K hK) | ((with_reducible refine wpT_nil ?_); try dsimp only)
        | (go_at_call 49; refine (eqClaim_same ts[k] _).mono ?_; rintro e w1 ⟨rfl, hb1⟩)
        | fail)
      go_roundw
      case rel => exact ⟨k + 1, by omega, by go_num, hbr.drew.trans (hb1.mono hzr)⟩
      case measure => simp [intOf]; omega
    · obtain rfl : k = n := by omega
      go_wp2
      go_ret
      exact ⟨rfl, hbr⟩

set_option maxHeartbeats 1000000 in
theorem eqVote_same (t : VoteT) (A : Option Addr) (n c : Nat) (Au : Option Addr) (nu cu : Nat) (lo hi lo' hi' : Nat) (w : World) (h0 : RdN 7 clR w lo hi A n c t.2) (h0u : RdN 7 clR w lo' hi' Au nu cu t.2) (hhi : hi ≤ w.heap.size) (hhi' : hi' ≤ w.heap.size) :
    Calls Tryd.prog 50 #[.agg #[.int .i64 t.1, .slice A n c], .agg #[.int .i64 t.1, .slice Au nu cu]] w fun e w' => e = .returned (.bool true) ∧ Below w.heap.size w w' := by
  have hB : Below w.heap.size w ((w.alloc (.cells #[.int .i64 t.1, .slice A n c] 49)).alloc (.cells #[.int .i64 t.1, .slice Au nu cu] 49)) := ((Below.refl _ _).alloc (Nat.le_refl _) _).alloc (by simp) _
  have e_1 : (t.1 != t.1) = false := by simp
  have x1 : ((w.alloc (.cells #[.int .i64 t.1, .slice A n c] 49)).alloc (.cells #[.int .i64 t.1, .slice Au nu cu] 49)).cell? ⟨w.heap.size, 1, none⟩ = some (.slice A n c) := by simp
  have y1 : ((w.alloc (.cells #[.int .i64 t.1, .slice A n c] 49)).alloc (.cells #[.int .i64 t.1, .slice Au nu cu] 49)).cell? ⟨w.heap.size + 1, 1, none⟩ = some (.slice Au nu cu) := by simp
  go_enter Tryd.func50, Tryd.ntmps50
  go_wp2_with fail
  generalize ((w.alloc (.cells #[.int .i64 t.1, .slice A n c] 49)).alloc (.cells #[.int .i64 t.1, .slice Au nu cu] 49)) = w0 at *
  refine (eqClaimS_same (h0.below (flat_kept _) hB hhi) (h0u.below (flat_kept _) hB hhi') (Nat.le_trans hhi hB.size) (Nat.le_trans hhi' hB.size)).mono ?_
  rintro e w1 ⟨rfl, hb1⟩
  have x1 := keepc hb1 x1
  have y1 := keepc hb1 y1
  have hB := hB.trans (hb1.mono hB.size)
  go_wp2
  go_ret
  exact ⟨rfl, hB⟩

theorem eqVoteS_same {A B : Option Addr} {n m c d lo hi lo' hi' : Nat} {ts : List VoteT} {w : World} (hs : RdN 2 voteR w lo hi A n c ts) (hs' : RdN 2 voteR w lo' hi' B m d ts) (hhi : hi ≤ w.heap.size) (hhi' : hi' ≤ w.heap.size) :
    Calls Tryd.prog 22 #[.slice A n c, .slice B m d] w fun e w' => e = .returned (.bool true) ∧ Below w.heap.size w w' := by
  obtain rfl : n = m := by rw [hs.len, hs'.len]
  have hn' := hide hs.len
  have hc1 := hs.cap
  have hc2 := hs.max
  unfold maxLen at hc2
  go_enter Tryd.func22, Tryd.ntmps22
  go_wp2
  go_loopw [5] (fun i wr => ∃ k : Nat, k ≤ n ∧ i = .int .i64 k ∧ Below w.heap.size w wr) (fun i _ => n - (intOf i).toNat)
  case atStart => exact ⟨0, Nat.zero_le _, rfl, Below.refl _ _⟩
  case round =>
    obtain ⟨k, hk, rfl, hbr⟩ := hrel
    have hzr := hbr.size
    by_cases hlt : k < n
    · have hlx : k < ts.length := by have := hn'.out; omega
      obtain ⟨b, off, rfl, hlo, hbh⟩ := hs.addr hlx
      obtain ⟨b', off', rfl, hlo', hbh'⟩ := hs'.addr hlx
      obtain ⟨A1, n1, c1, a0, a1, r0⟩ := (hs.below vote_kept hbr hhi).vote hlx
      obtain ⟨A2, n2, c2, b0, b1, u0⟩ := (hs'.below vote_kept hbr hhi').vote hlx
      have heq := hide (fun W (h : Below wr.heap.size wr W) => eqVote_same ts[k] A1 n1 c1 A2 n2 c2 lo hi lo' hi' W (r0.below (flat_kept _) h (by omega)) (u0.below (flat_kept _) h (by omega)) (by have := h.size; omega) (by have := h.size; omega))
      go_wp2
      refine wp_region_T (fun _ => True) [] [] [] [0, 1, 2, 3, 4, 5, 6, 7, 8, 9] (by kernel_rfl) (by kernel_rfl) (by kernel_rfl) trivial ?_; simp only [pickL, List.getElem?_cons_succ, List.getElem?_cons_zero]
      go_wp2_with (first
        | ((with_reducible refine wpT_q0 ?_ ?_ ?_ ?_); (focus rfl); (focus rfl); (focus rfl); intro K hK) | ((with_reducible refine wpT_x0 ?_ ?_ ?_); (focus rfl); (focus rfl); intro K hK) | ((with_reducible refine wpT_noL ?_ ?_); (focus (first | exact wanted_no _ _ _ rfl rfl rfl | exact wanted_un _ _ _ rfl rfl rfl)); simp only [setO, List.set_cons_succ, List.set_cons_zero]) | ((with_reducible refine wpT_q1 ?_ ?_ ?_ ?_); (focus exact wanted_yes _ _ _ rfl rfl rfl); (focus rfl); (focus rfl); intro K hK) | ((with_reducible refine wpT_x1 ?_ ?_ ?_); (focus exact wanted_yes _ _ _ rfl rfl rfl); (focus rfl); intro K hK) | ((with_reducible refine wpT_nil ?_); try dsimp only)
        | (go_at_call 50; refine (heq.out _ (below_drewN wr 1)).mono ?_; rintro e w1 ⟨rfl, hb1⟩)
        | fail)
      go_roundw
      case rel => exact ⟨k + 1, by omega, by go_num, hbr.drew.trans (hb1.mono hzr)⟩
      case measure => simp [intOf]; omega
    · obtain rfl : k = n := by omega
      go_wp2
      go_ret
      exact ⟨rfl, hbr⟩

set_option maxHeartbeats 1000000 in
theorem eqMsg_same (t : MsgT) (A B : Option Addr) (n c p d : Nat) (Au Bu : Option Addr) (nu cu pu du : Nat) (lo hi lo' hi' : Nat) (w : World) (h0 : RdN 7 clR w lo hi A n c t.2.2.2.2.2.1) (h1 : RdN 2 voteR w lo hi B p d t.2.2.2.2.2.2) (h0u : RdN 7 clR w lo' hi' Au nu cu t.2.2.2.2.2.1) (h1u : RdN 2 voteR w lo' hi' Bu pu du t.2.2.2.2.2.2) (hhi : hi ≤ w.heap.size) (hhi' : hi' ≤ w.heap.size) :
    Calls Tryd.prog 8 #[.agg #[.int .i64 t.1, .int .i64 t.2.1, .int .i64 t.2.2.1, .int .i64 t.2.2.2.1, .int .i64 t.2.2.2.2.1.1, .int .i64 t.2.2.2.2.1.2.1, .int .i64 t.2.2.2.2.1.2.2.1, .int .i64 t.2.2.2.2.1.2.2.2.1, .int .i64 t.2.2.2.2.1.2.2.2.2, .slice A n c, .slice B p d], .agg #[.int .i64 t.1, .int .i64 t.2.1, .int .i64 t.2.2.1, .int .i64 t.2.2.2.1, .int .i64 t.2.2.2.2.1.1, .int .i64 t.2.2.2.2.1.2.1, .int .i64 t.2.2.2.2.1.2.2.1, .int .i64 t.2.2.2.2.1.2.2.2.1, .int .i64 t.2.2.2.2.1.2.2.2.2, .slice Au nu cu, .slice Bu pu du]] w fun e w' => e = .returned (.bool true) ∧ Below w.heap.size w w' := by
  have hB : Below w.heap.size w ((w.alloc (.cells #[.int .i64 t.1, .int .i64 t.2.1, .int .i64 t.2.2.1, .int .i64 t.2.2.2.1, .int .i64 t.2.2.2.2.1.1, .int .i64 t.2.2.2.2.1.2.1, .int .i64 t.2.2.2.2.1.2.2.1, .int .i64 t.2.2.2.2.1.2.2.2.1, .int .i64 t.2.2.2.2.1.2.2.2.2, .slice A n c, .slice B p d] 34)).alloc (.cells #[.int .i64 t.1, .int .i64 t.2.1, .int .i64 t.2.2.1, .int .i64 t.2.2.2.1, .int .i64 t.2.2.2.2.1.1, .int .i64 t.2.2.2.2.1.2.1, .int .i64 t.2.2.2.2.1.2.2.1, .int .i64 t.2.2.2.2.1.2.2.2.1, .int .i64 t.2.2.2.2.1.2.2.2.2, .slice Au nu cu, .slice Bu pu du] 34)) := ((Below.refl _ _).alloc (Nat.le_refl _) _).alloc (by simp) _
  have e_1 : (t.1 != t.1) = false := by simp
  have e_2_1 : (t.2.1 != t.2.1) = false := by simp
  have e_2_2_1 : (t.2.2.1 != t.2.2.1) = false := by simp
  have e_2_2_2_1 : (t.2.2.2.1 != t.2.2.2.1) = false := by simp
  have x9 : ((w.alloc (.cells #[.int .i64 t.1, .int .i64 t.2.1, .int .i64 t.2.2.1, .int .i64 t.2.2.2.1, .int .i64 t.2.2.2.2.1.1, .int .i64 t.2.2.2.2.1.2.1, .int .i64 t.2.2.2.2.1.2.2.1, .int .i64 t.2.2.2.2.1.2.2.2.1, .int .i64 t.2.2.2.2.1.2.2.2.2, .slice A n c, .slice B p d] 34)).alloc (.cells #[.int .i64 t.1, .int .i64 t.2.1, .int .i64 t.2.2.1, .int .i64 t.2.2.2.1, .int .i64 t.2.2.2.2.1.1, .int .i64 t.2.2.2.2.1.2.1, .int .i64 t.2.2.2.2.1.2.2.1, .int .i64 t.2.2.2.2.1.2.2.2.1, .int .i64 t.2.2.2.2.1.2.2.2.2, .slice Au nu cu, .slice Bu pu du] 34)).cell? ⟨w.heap.size, 9, none⟩ = some (.slice A n c) := by simp
  have y9 : ((w.alloc (.cells #[.int .i64 t.1, .int .i64 t.2.1, .int .i64 t.2.2.1, .int .i64 t.2.2.2.1, .int .i64 t.2.2.2.2.1.1, .int .i64 t.2.2.2.2.1.2.1, .int .i64 t.2.2.2.2.1.2.2.1, .int .i64 t.2.2.2.2.1.2.2.2.1, .int .i64 t.2.2.2.2.1.2.2.2.2, .slice A n c, .slice B p d] 34)).alloc (.cells #[.int .i64 t.1, .int .i64 t.2.1, .int .i64 t.2.2.1, .int .i64 t.2.2.2.1, .int .i64 t.2.2.2.2.1.1, .int .i64 t.2.2.2.2.1.2.1, .int .i64 t.2.2.2.2.1.2.2.1, .int .i64 t.2.2.2.2.1.2.2.2.1, .int .i64 t.2.2.2.2.1.2.2.2.2, .slice Au nu cu, .slice Bu pu du] 34)).cell? ⟨w.heap.size + 1, 9, none⟩ = some (.slice Au nu cu) := by simp
  have x10 : ((w.alloc (.cells #[.int .i64 t.1, .int .i64 t.2.1, .int .i64 t.2.2.1, .int .i64 t.2.2.2.1, .int .i64 t.2.2.2.2.1.1, .int .i64 t.2.2.2.2.1.2.1, .int .i64 t.2.2.2.2.1.2.2.1, .int .i64 t.2.2.2.2.1.2.2.2.1, .int .i64 t.2.2.2.2.1.2.2.2.2, .slice A n c, .slice B p d] 34)).alloc (.cells #[.int .i64 t.1, .int .i64 t.2.1, .int .i64 t.2.2.1, .int .i64 t.2.2.2.1, .int .i64 t.2.2.2.2.1.1, .int .i64 t.2.2.2.2.1.2.1, .int .i64 t.2.2.2.2.1.2.2.1, .int .i64 t.2.2.2.2.1.2.2.2.1, .int .i64 t.2.2.2.2.1.2.2.2.2, .slice Au nu cu, .slice Bu pu du] 34)).cell? ⟨w.heap.size, 10, none⟩ = some (.slice B p d) := by simp
  have y10 : ((w.alloc (.cells #[.int .i64 t.1, .int .i64 t.2.1, .int .i64 t.2.2.1, .int .i64 t.2.2.2.1, .int .i64 t.2.2.2.2.1.1, .int .i64 t.2.2.2.2.1.2.1, .int .i64 t.2.2.2.2.1.2.2.1, .int .i64 t.2.2.2.2.1.2.2.2.1, .int .i64 t.2.2.2.2.1.2.2.2.2, .slice A n c, .slice B p d] 34)).alloc (.cells #[.int .i64 t.1, .int .i64 t.2.1, .int .i64 t.2.2.1, .int .i64 t.2.2.2.1, .int .i64 t.2.2.2.2.1.1, .int .i64 t.2.2.2.2.1.2.1, .int .i64 t.2.2.2.2.1.2.2.1, .int .i64 t.2.2.2.2.1.2.2.2.1, .int .i64 t.2.2.2.2.1.2.2.2.2, .slice Au nu cu, .slice Bu pu du] 34)).cell? ⟨w.heap.size + 1, 10, none⟩ = some (.slice Bu pu du) := by simp
  go_enter Tryd.func8, Tryd.ntmps8
  go_wp2_with fail
  generalize ((w.alloc (.cells #[.int .i64 t.1, .int .i64 t.2.1, .int .i64 t.2.2.1, .int .i64 t.2.2.2.1, .int .i64 t.2.2.2.2.1.1, .int .i64 t.2.2.2.2.1.2.1, .int .i64 t.2.2.2.2.1.2.2.1, .int .i64 t.2.2.2.2.1.2.2.2.1, .int .i64 t.2.2.2.2.1.2.2.2.2, .slice A n c, .slice B p d] 34)).alloc (.cells #[.int .i64 t.1, .int .i64 t.2.1, .int .i64 t.2.2.1, .int .i64 t.2.2.2.1, .int .i64 t.2.2.2.2.1.1, .int .i64 t.2.2.2.2.1.2.1, .int .i64 t.2.2.2.2.1.2.2.1, .int .i64 t.2.2.2.2.1.2.2.2.1, .int .i64 t.2.2.2.2.1.2.2.2.2, .slice Au nu cu, .slice Bu pu du] 34)) = w0 at *
  refine (eqReq_same t.2.2.2.2.1 w0).mono ?_
  rintro e wq ⟨rfl, hbq⟩
  have x9 := keepc hbq x9
  have x10 := keepc hbq x10
  have y9 := keepc hbq y9
  have y10 := keepc hbq y10
  have hB := hB.trans (hbq.mono hB.size)
  go_wp2_with fail
  refine (eqClaimS_same (h0.below (flat_kept _) hB hhi) (h0u.below (flat_kept _) hB hhi') (Nat.le_trans hhi hB.size) (Nat.le_trans hhi' hB.size)).mono ?_
  rintro e w1 ⟨rfl, hb1⟩
  have x9 := keepc hb1 x9
  have x10 := keepc hb1 x10
  have y9 := keepc hb1 y9
  have y10 := keepc hb1 y10
  have hB := hB.trans (hb1.mono hB.size)
  go_wp2_with fail
  refine (eqVoteS_same (h1.below vote_kept hB hhi) (h1u.below vote_kept hB hhi') (Nat.le_trans hhi hB.size) (Nat.le_trans hhi' hB.size)).mono ?_
  rintro e w2 ⟨rfl, hb2⟩
  have x9 := keepc hb2 x9
  have x10 := keepc hb2 x10
  have y9 := keepc hb2 y9
  have y10 := keepc hb2 y10
  have hB := hB.trans (hb2.mono hB.size)
  go_wp2
  go_ret
  exact ⟨rfl, hB⟩

theorem szClaimS_c (A : Option Addr) (n c left : Nat) (w : World) (hn : n ≤ maxLen) (hl : left ≤ 1048576) : Calls Tryd.prog 9 #[.slice A n c, .int .i64 (left : Int)] w fun e w' => e = .returned (.int .i64 (szO left n)) ∧ w = w' := by
  unfold maxLen at hn
  by_cases h : n ≤ left
  · have hz := hide (szO_yes h)
    have d1 : decide ((left : Int) - (n : Int) < 0) = false := by simp; omega
    go_enter Tryd.func9, Tryd.ntmps9
    go_wp2
    go_ret
    exact ⟨by rw [hz.out, Int.ofNat_sub h]; rfl, rfl⟩
  · have hz := hide (szO_no (show left < n by omega))
    have d1 : decide ((left : Int) - (n : Int) < 0) = true := by simp; omega
    go_enter Tryd.func9, Tryd.ntmps9
    go_wp2
    go_ret
    exact ⟨by rw [hz.out]; rfl, rfl⟩

set_option maxHeartbeats 1000000 in
theorem szVote_c (t : VoteT) (A : Option Addr) (n c : Nat) (lo hi left : Nat) (w : World) (h0 : RdN 7 clR w lo hi A n c t.2) (hhi : hi ≤ w.heap.size) (hl : left ≤ 1048576) :
    Calls Tryd.prog 23 #[.agg #[.int .i64 t.1, .slice A n c], .int .i64 (left : Int)] w fun e w' => e = .returned (.int .i64 (szO left (szVote t))) ∧ Below w.heap.size w w' := by
  have hB : Below w.heap.size w (w.alloc (.cells #[.int .i64 t.1, .slice A n c] 55)) := (Below.refl _ _).alloc (Nat.le_refl _) _
  have hsz : Hid (szVote t = t.2.length) := hide rfl
  have l0 := hide h0.len
  have m0 : n ≤ maxLen := Nat.le_trans h0.cap h0.max
  have x1 : (w.alloc (.cells #[.int .i64 t.1, .slice A n c] 55)).cell? ⟨w.heap.size, 1, none⟩ = some (.slice A n c) := by simp
  by_cases k0 : t.2.length ≤ left
  · have g0 : n = t.2.length := l0.out
    have y0 := hide (szO_yes (show n ≤ left from by omega))
    clear g0
    go_enter Tryd.func23, Tryd.ntmps23
    go_wp2_with fail
    refine (szClaimS_c A n c (left) _ m0 (by omega)).mono ?_
    rintro e w1 ⟨rfl, rfl⟩
    rw [y0.out]
    have d0 : decide ((((left) - n : Nat) : Int) < 0) = false := by simp
    go_wp2
    go_ret
    exact ⟨congrArg (fun b => Ending.returned (.int .i64 b)) (by have h9 := hsz.out; have q0 := l0.out; rw [szO_yes (by omega)]; omega), hB⟩
  · have g0 : n = t.2.length := l0.out
    have y0 := hide (szO_no (show left < n from by omega))
    clear g0
    go_enter Tryd.func23, Tryd.ntmps23
    go_wp2_with fail
    refine (szClaimS_c A n c (left) _ m0 (by omega)).mono ?_
    rintro e w1 ⟨rfl, rfl⟩
    rw [y0.out]
    go_wp2
    go_ret
    exact ⟨congrArg (fun b => Ending.returned (.int .i64 b)) (by have h9 := hsz.out; have q0 := l0.out; rw [szO_no (by omega)]), hB⟩

set_option maxHeartbeats 1000000 in
theorem szVoteS_c (A : Option Addr) (n c lo hi left : Nat) {ts : List VoteT} (w : World) (hs : RdN 2 voteR w lo hi A n c ts) (hhi : hi ≤ w.heap.size) (hl : left ≤ 1048576) :
    Calls Tryd.prog 10 #[.slice A n c, .int .i64 (left : Int)] w fun e w' => e = .returned (.int .i64 (szO left (szVotes ts))) ∧ Below w.heap.size w w' := by
  have hn' := hide hs.len
  have hc1 := hs.cap
  have hc2 := hs.max
  unfold maxLen at hc2
  have hsz : Hid (szVotes ts = n + (ts.map szVote).sum) := hide (by unfold szVotes; rw [hn'.out])
  by_cases h0 : n ≤ left
  · have d1 : decide ((left : Int) - (n : Int) < 0) = false := by simp; omega
    go_enter Tryd.func10, Tryd.ntmps10
    go_wp2
    go_loopw [1, 5] (fun l i wr => ∃ k : Nat, k ≤ n ∧ i = .int .i64 k ∧ n + ((ts.take k).map szVote).sum ≤ left ∧ l = .int .i64 ((left - (n + ((ts.take k).map szVote).sum) : Nat) : Int) ∧ Below w.heap.size w wr) (fun _ i _ => n - (intOf i).toNat)
    case atStart => exact ⟨0, Nat.zero_le _, rfl, by simpa using h0, by simp; omega, Below.refl _ _⟩
    case round =>
      obtain ⟨k, hk, rfl, hle, rfl, hbr⟩ := hrel
      have hzr := hbr.size
      by_cases hlt : k < n
      · have hlx : k < ts.length := by have := hn'.out; omega
        obtain ⟨b, off, rfl, hlo, hbh⟩ := hs.addr hlx
        obtain ⟨A1, n1, c1, a0, a1, r0⟩ := (hs.below vote_kept hbr hhi).vote hlx
        have hst := hide (sum_take_succ szVote ts k hlx)
        have hto := hide (sum_take_le szVote ts (k + 1))
        generalize hL : left - (n + ((ts.take k).map szVote).sum) = L at *
        have hL' := hide hL
        clear hL
        have hLb : L ≤ 1048576 := by have := hL'.out; omega
        by_cases h1 : szVote ts[k] ≤ L
        · have y := hide (szO_yes h1)
          go_wp2_with fail
          refine (szVote_c ts[k] A1 n1 c1 lo hi L wr r0 (by omega) hLb).mono ?_
          rintro e w1 ⟨rfl, hb1⟩
          rw [y.out]
          have d2 : decide (((L - szVote ts[k] : Nat) : Int) < 0) = false := by simp
          go_wp2
          go_roundw
          case rel => exact ⟨k + 1, by omega, by go_num, by have h2 := hL'.out; have h3 := hst.out; rw [h3]; omega, congrArg (fun z : Nat => Value.int .i64 (z : Int)) (by have h2 := hL'.out; have h3 := hst.out; rw [h3]; omega), hbr.trans (hb1.mono hzr)⟩
          case measure => simp [intOf]; omega
        · have y := hide (szO_no (show L < szVote ts[k] by omega))
          go_wp2_with fail
          refine (szVote_c ts[k] A1 n1 c1 lo hi L wr r0 (by omega) hLb).mono ?_
          rintro e w1 ⟨rfl, hb1⟩
          rw [y.out]
          go_wp2
          go_ret
          exact ⟨congrArg (fun b => Ending.returned (.int .i64 b)) (by have h2 := hL'.out; have h3 := hst.out; have h4 := hto.out; have h5 := hsz.out; rw [szO_no (by omega)]), hbr.trans (hb1.mono hzr)⟩
      · obtain rfl : k = n := by omega
        have hfin : Hid ((ts.take k).map szVote = ts.map szVote) := hide (by rw [List.take_of_length_le (by rw [hn'.out]; omega)])
        rw [hfin.out] at hle
        have hres := hide (congrArg (fun z : Nat => (z : Int)) (show left - (k + ((ts.take k).map szVote).sum) = left - szVotes ts from by rw [hfin.out, hsz.out]))
        have hres2 := hide (szO_yes (show szVotes ts ≤ left from by rw [hsz.out]; exact hle))
        go_wp2
        go_ret
        exact ⟨congrArg (fun b => Ending.returned (.int .i64 b)) (by rw [hres2.out]; exact hres.out), hbr⟩
  · have d1 : decide ((left : Int) - (n : Int) < 0) = true := by simp; omega
    have y := hide (szO_no (show left < szVotes ts from by have := hsz.out; omega))
    go_enter Tryd.func10, Tryd.ntmps10
    go_wp2
    go_ret
    exact ⟨congrArg (fun b => Ending.returned (.int .i64 b)) y.out.symm, Below.refl _ _⟩

set_option maxHeartbeats 1000000 in
theorem szMsg_c (t : MsgT) (A B : Option Addr) (n c p d : Nat) (lo hi left : Nat) (w : World) (h0 : RdN 7 clR w lo hi A n c t.2.2.2.2.2.1) (h1 : RdN 2 voteR w lo hi B p d t.2.2.2.2.2.2) (hhi : hi ≤ w.heap.size) (hl : left ≤ 1048576) :
    Calls Tryd.prog 4 #[.agg #[.int .i64 t.1, .int .i64 t.2.1, .int .i64 t.2.2.1, .int .i64 t.2.2.2.1, .int .i64 t.2.2.2.2.1.1, .int .i64 t.2.2.2.2.1.2.1, .int .i64 t.2.2.2.2.1.2.2.1, .int .i64 t.2.2.2.2.1.2.2.2.1, .int .i64 t.2.2.2.2.1.2.2.2.2, .slice A n c, .slice B p d], .int .i64 (left : Int)] w fun e w' => e = .returned (.int .i64 (szO left (szMsg t))) ∧ Below w.heap.size w w' := by
  have hB : Below w.heap.size w (w.alloc (.cells #[.int .i64 t.1, .int .i64 t.2.1, .int .i64 t.2.2.1, .int .i64 t.2.2.2.1, .int .i64 t.2.2.2.2.1.1, .int .i64 t.2.2.2.2.1.2.1, .int .i64 t.2.2.2.2.1.2.2.1, .int .i64 t.2.2.2.2.1.2.2.2.1, .int .i64 t.2.2.2.2.1.2.2.2.2, .slice A n c, .slice B p d] 27)) := (Below.refl _ _).alloc (Nat.le_refl _) _
  have hsz : Hid (szMsg t = t.2.2.2.2.2.1.length + szVotes t.2.2.2.2.2.2) := hide rfl
  have l0 := hide h0.len
  have m0 : n ≤ maxLen := Nat.le_trans h0.cap h0.max
  have l1 := hide h1.len
  have m1 : p ≤ maxLen := Nat.le_trans h1.cap h1.max
  have x9 : (w.alloc (.cells #[.int .i64 t.1, .int .i64 t.2.1, .int .i64 t.2.2.1, .int .i64 t.2.2.2.1, .int .i64 t.2.2.2.2.1.1, .int .i64 t.2.2.2.2.1.2.1, .int .i64 t.2.2.2.2.1.2.2.1, .int .i64 t.2.2.2.2.1.2.2.2.1, .int .i64 t.2.2.2.2.1.2.2.2.2, .slice A n c, .slice B p d] 27)).cell? ⟨w.heap.size, 9, none⟩ = some (.slice A n c) := by simp
  have x10 : (w.alloc (.cells #[.int .i64 t.1, .int .i64 t.2.1, .int .i64 t.2.2.1, .int .i64 t.2.2.2.1, .int .i64 t.2.2.2.2.1.1, .int .i64 t.2.2.2.2.1.2.1, .int .i64 t.2.2.2.2.1.2.2.1, .int .i64 t.2.2.2.2.1.2.2.2.1, .int .i64 t.2.2.2.2.1.2.2.2.2, .slice A n c, .slice B p d] 27)).cell? ⟨w.heap.size, 10, none⟩ = some (.slice B p d) := by simp
  by_cases k0 : t.2.2.2.2.2.1.length ≤ left
  · have g0 : n = t.2.2.2.2.2.1.length := l0.out
    have y0 := hide (szO_yes (show n ≤ left from by omega))
    clear g0
    go_enter Tryd.func4, Tryd.ntmps4
    go_wp2_with fail
    refine (szClaimS_c A n c (left) _ m0 (by omega)).mono ?_
    rintro e w1 ⟨rfl, rfl⟩
    rw [y0.out]
    have d0 : decide ((((left) - n : Nat) : Int) < 0) = false := by simp
    go_wp2_with fail
    by_cases k1 : szVotes t.2.2.2.2.2.2 ≤ left - n
    · have y1 := hide (szO_yes (show szVotes t.2.2.2.2.2.2 ≤ left - n from by omega))
      refine (szVoteS_c B p d lo hi (left - n) _ (h1.below vote_kept hB hhi) (Nat.le_trans hhi hB.size) (by omega)).mono ?_
      rintro e w2 ⟨rfl, hb1⟩
      have hB := hB.trans (hb1.mono hB.size)
      have x9 := keepc hb1 x9
      have x10 := keepc hb1 x10
      rw [y1.out]
      have d1 : decide ((((left - n) - szVotes t.2.2.2.2.2.2 : Nat) : Int) < 0) = false := by simp
      go_wp2
      go_ret
      exact ⟨congrArg (fun b => Ending.returned (.int .i64 b)) (by have h9 := hsz.out; have q0 := l0.out; have q1 := l1.out; rw [szO_yes (by omega)]; omega), hB⟩
    · have y1 := hide (szO_no (show left - n < szVotes t.2.2.2.2.2.2 from by omega))
      refine (szVoteS_c B p d lo hi (left - n) _ (h1.below vote_kept hB hhi) (Nat.le_trans hhi hB.size) (by omega)).mono ?_
      rintro e w2 ⟨rfl, hb1⟩
      have hB := hB.trans (hb1.mono hB.size)
      have x9 := keepc hb1 x9
      have x10 := keepc hb1 x10
      rw [y1.out]
      go_wp2
      go_ret
      exact ⟨congrArg (fun b => Ending.returned (.int .i64 b)) (by have h9 := hsz.out; have q0 := l0.out; have q1 := l1.out; rw [szO_no (by omega)]), hB⟩
  · have g0 : n = t.2.2.2.2.2.1.length := l0.out
    have y0 := hide (szO_no (show left < n from by omega))
    clear g0
    go_enter Tryd.func4, Tryd.ntmps4
    go_wp2_with fail
    refine (szClaimS_c A n c (left) _ m0 (by omega)).mono ?_
    rintro e w1 ⟨rfl, rfl⟩
    rw [y0.out]
    go_wp2
    go_ret
    exact ⟨congrArg (fun b => Ending.returned (.int .i64 b)) (by have h9 := hsz.out; have q0 := l0.out; have q1 := l1.out; rw [szO_no (by omega)]), hB⟩
end Go.Proofs.YtocifmnkohgfjaaDoor
