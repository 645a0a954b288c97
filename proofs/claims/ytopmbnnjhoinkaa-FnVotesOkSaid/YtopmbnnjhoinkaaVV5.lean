/-
  What 'FVd' rests on (texts of this seat put together: ND).
  Conditions: none.
-/
import Derived.Test.YtopmbnnjhoinkaaVV4
namespace Go.Proofs.Ytopmbnnjhoinkaa
open Go.RowKit Rg
set_option linter.unusedVariables false
set_option linter.unusedSimpArgs false
set_option maxHeartbeats 1000000
theorem RdN.drewN {α : Type} {sz : Nat} {R : ElR α} {w : World} {lo hi : Nat} {A : Option Addr} {n c : Nat} {ts : List α} (h : RdN sz R w lo hi A n c ts) (K : Kept R) (z : Nat) : RdN sz R (w.drewN z) lo hi A n c ts := h.keep K fun _ _ _ => rfl
theorem msg_ext (a b : MsgT) : decide (a = b) = ((a.1 == b.1) && ((a.2.1 == b.2.1) && ((a.2.2.1 == b.2.2.1) && ((a.2.2.2.1 == b.2.2.2.1) && (decide (a.2.2.2.2.1 = b.2.2.2.2.1) && (decide (a.2.2.2.2.2.1 = b.2.2.2.2.2.1) && decide (a.2.2.2.2.2.2 = b.2.2.2.2.2.2))))))) := by
  rw [Bool.eq_iff_iff]
  simp [Prod.ext_iff]
theorem sameVote_c (s t : VoteT) (A B : Option Addr) (n c m d lo hi lo' hi' : Nat) (w : World) (hs : RdN 7 clR w lo hi A n c s.2) (hs' : RdN 7 clR w lo' hi' B m d t.2) (hhi : hi ≤ w.heap.size) (hhi' : hi' ≤ w.heap.size) :
    Calls Try.prog 63 #[.agg #[.int .i64 s.1, .slice A n c], .agg #[.int .i64 t.1, .slice B m d]] w fun e w' => e = .returned (.bool (decide (s = t))) ∧ Below w.heap.size w w' := by
  have hz : decide (s = t) = ((s.1 == t.1) && decide (s.2 = t.2)) := by
    rw [Bool.eq_iff_iff]; simp [Prod.ext_iff]
  rw [hz]
  have hb0 : Below w.heap.size w ((w.alloc (.cells #[.int .i64 s.1, .slice A n c] 42)).alloc (.cells #[.int .i64 t.1, .slice B m d] 42)) := ((Below.refl _ _).alloc (Nat.le_refl _) _).alloc (by simp) _
  have q1 := hs.below (flat_kept _) hb0 hhi
  have q3 := hs'.below (flat_kept _) hb0 hhi'
  cases e1 : (s.1 == t.1)
  all_goals
    have h1 := hide e1
    go_enter Try.func63, Try.ntmps63
    go_wp2_with (go_at_call 32; refine (equalClaims_c _ _ _ _ _ _ _ _ _ _ _ _ _ q1 q3).mono ?_; rintro e w1 ⟨rfl, z1, rfl⟩)
    go_ret
    refine ⟨congrArg (fun b => Ending.returned (.bool b)) ?_, ?_⟩
    · simp [h1.out]
    · first
        | exact hb0
        | exact below_drewN' hb0 _
theorem equalVotes_c (A B : Option Addr) (n m c d lo hi lo' hi' : Nat) (xs ys : List VoteT) (w : World) (hs : RdN 2 voteR w lo hi A n c xs) (hs' : RdN 2 voteR w lo' hi' B m d ys) (hhi : hi ≤ w.heap.size) (hhi' : hi' ≤ w.heap.size) :
    Calls Try.prog 62 #[.slice A n c, .slice B m d, .func (.func 63) #[] #[]] w fun e w' => e = .returned (.bool (decide (xs = ys))) ∧ Below w.heap.size w w' := by
  have hn' := hide hs.len
  have hm' := hide hs'.len
  have hc1 := hs.cap
  have hc2 := hs.max
  have hd1 := hs'.cap
  have hd2 := hs'.max
  unfold maxLen at hc2 hd2
  by_cases hnm : n = m
  · subst hnm
    go_enter Try.func62, Try.ntmps62
    go_wp2
    go_loopw [17, 7, 8, 9] (fun i _ _ _ wr => ∃ k : Nat, k ≤ n ∧ i = .int .i64 k ∧ Hid (xs.take k = ys.take k) ∧ Below w.heap.size w wr) (fun i _ _ _ _ => n - (intOf i).toNat)
    case atStart => exact ⟨0, Nat.zero_le _, rfl, rfl, Below.refl _ _⟩
    case round =>
      obtain ⟨k, hk, rfl, he, hbr⟩ := hrel
      by_cases hlt : k < n
      · have hlx : k < xs.length := by have := hn'.out; omega
        have hly : k < ys.length := by have := hm'.out; omega
        obtain ⟨b, off, rfl, hlo, hbh⟩ := hs.addr hlx
        obtain ⟨b', off', rfl, hlo', hbh'⟩ := hs'.addr hly
        have hbz := hbr.size
        obtain ⟨A1, n1, c1, a1, a2, r1⟩ := (hs.below vote_kept hbr hhi).vote hlx
        obtain ⟨A2, n2, c2, b1, b2, r2⟩ := (hs'.below vote_kept hbr hhi').vote hly
        have hA1 := (Below.refl wr.heap.size wr).alloc (Nat.le_refl _) (.cells #[.int .i64 xs[k].1, .slice A1 n1 c1] 42)
        have b1 := keepc hA1 b1
        have b2 := keepc hA1 b2
        have hb0 := hA1.alloc (by simp) (.cells #[.int .i64 ys[k].1, .slice A2 n2 c2] 42)
        have q1 := r1.below (flat_kept _) hb0 (by omega)
        have q3 := r2.below (flat_kept _) hb0 (by omega)
        have hz0 := hb0.size
        go_wp2_with fail
        refine (sameVote_c xs[k] ys[k] A1 A2 n1 c1 n2 c2 lo hi lo' hi' _ q1 q3 (by omega) (by omega)).mono ?_
        rintro e w1 ⟨rfl, hb1⟩
        have hB1 := hbr.trans ((hb0.trans (hb1.mono hz0)).mono hbz)
        cases e : decide (xs[k] = ys[k])
        · have e' := hide (of_decide_eq_false e)
          go_wp2
          go_ret
          exact ⟨by simp [take_ne hlx hly e'.out], hB1⟩
        · have e' := hide (of_decide_eq_true e)
          go_wp2
          go_roundw
          case rel => exact ⟨k + 1, by omega, by go_num, take_eq_succ xs ys k hlx hly he.out e'.out, hB1⟩
          case measure => simp [intOf]; omega
      · obtain rfl : k = n := by omega
        go_wp2
        go_ret
        have e1 := he.out
        rw [List.take_of_length_le (by rw [hn'.out]; omega), List.take_of_length_le (by rw [hm'.out]; omega)] at e1
        exact ⟨by simp [e1], hbr⟩
  · have hne : ¬ xs = ys := fun h => by subst h; have := hn'.out; have := hm'.out; omega
    have hne' : ((n : Int) != (m : Int)) = true := by simp; omega
    go_enter Try.func62, Try.ntmps62
    go_wp2
    go_ret
    exact ⟨by simp [hne], Below.refl _ _⟩
set_option maxHeartbeats 1000000 in
theorem l3Same_c (a b : MsgT) (A B A' B' : Option Addr) (n c p d n' c' p' d' lo hi lo' hi' : Nat) (w : World) (hc : RdN 7 clR w lo hi A n c a.2.2.2.2.2.1) (hv : RdN 2 voteR w lo hi B p d a.2.2.2.2.2.2) (hc' : RdN 7 clR w lo' hi' A' n' c' b.2.2.2.2.2.1) (hv' : RdN 2 voteR w lo' hi' B' p' d' b.2.2.2.2.2.2) (hhi : hi ≤ w.heap.size) (hhi' : hi' ≤ w.heap.size) :
    Calls Try.prog 87 #[.agg #[.int .i64 a.1, .int .i64 a.2.1, .int .i64 a.2.2.1, .int .i64 a.2.2.2.1, .int .i64 a.2.2.2.2.1.1, .int .i64 a.2.2.2.2.1.2.1, .int .i64 a.2.2.2.2.1.2.2.1, .int .i64 a.2.2.2.2.1.2.2.2.1, .int .i64 a.2.2.2.2.1.2.2.2.2, .slice A n c, .slice B p d], .agg #[.int .i64 b.1, .int .i64 b.2.1, .int .i64 b.2.2.1, .int .i64 b.2.2.2.1, .int .i64 b.2.2.2.2.1.1, .int .i64 b.2.2.2.2.1.2.1, .int .i64 b.2.2.2.2.1.2.2.1, .int .i64 b.2.2.2.2.1.2.2.2.1, .int .i64 b.2.2.2.2.1.2.2.2.2, .slice A' n' c', .slice B' p' d']] w fun e w' => e = .returned (.bool (decide (a = b))) ∧ Below w.heap.size w w' := by
  rw [msg_ext]
  have hb0 : Below w.heap.size w ((w.alloc (.cells #[.int .i64 a.1, .int .i64 a.2.1, .int .i64 a.2.2.1, .int .i64 a.2.2.2.1, .int .i64 a.2.2.2.2.1.1, .int .i64 a.2.2.2.2.1.2.1, .int .i64 a.2.2.2.2.1.2.2.1, .int .i64 a.2.2.2.2.1.2.2.2.1, .int .i64 a.2.2.2.2.1.2.2.2.2, .slice A n c, .slice B p d] 34)).alloc (.cells #[.int .i64 b.1, .int .i64 b.2.1, .int .i64 b.2.2.1, .int .i64 b.2.2.2.1, .int .i64 b.2.2.2.2.1.1, .int .i64 b.2.2.2.2.1.2.1, .int .i64 b.2.2.2.2.1.2.2.1, .int .i64 b.2.2.2.2.1.2.2.2.1, .int .i64 b.2.2.2.2.1.2.2.2.2, .slice A' n' c', .slice B' p' d'] 34)) := ((Below.refl _ _).alloc (Nat.le_refl _) _).alloc (by simp) _
  have q1 := hc.below (flat_kept _) hb0 hhi
  have q2 := hv.below vote_kept hb0 hhi
  have q3 := hc'.below (flat_kept _) hb0 hhi'
  have q4 := hv'.below vote_kept hb0 hhi'
  have hbs := hb0.size
  have hr := fun w => run_eq_req a.2.2.2.2.1 b.2.2.2.2.1 w
  cases e1 : (a.1 == b.1)
  · have h1 := hide e1
    go_enter Try.func87, Try.ntmps87
    go_wp2_with (first
      | (go_at_call 96; refine (l3SameClaims_c _ _ _ _ _ _ _ _ _ _ _ _ _ q1 q3).mono ?_; rintro e w1 ⟨rfl, z1, rfl⟩)
      | (go_at_call 97; refine (l3SameVotes_c _ _ _ _ _ _ _ _ _ _ _ _ _ (q2.drewN vote_kept _) (q4.drewN vote_kept _)).mono ?_; rintro e w2 ⟨rfl, z2⟩))
    all_goals
      go_ret
      refine ⟨congrArg (fun b => Ending.returned (.bool b)) ?_, ?_⟩
      · simp [h1.out]
      · first
          | exact hb0
          | exact below_drewN' hb0 _
          | (obtain ⟨z3, rfl⟩ := z2; exact below_drewN' (below_drewN' hb0 _) _)
          | exact (below_drewN' hb0 _).trans (z2.mono hbs)
  · have h1 := hide e1
    cases e2 : (a.2.1 == b.2.1)
    · have h2 := hide e2
      go_enter Try.func87, Try.ntmps87
      go_wp2_with (first
        | (go_at_call 96; refine (l3SameClaims_c _ _ _ _ _ _ _ _ _ _ _ _ _ q1 q3).mono ?_; rintro e w1 ⟨rfl, z1, rfl⟩)
        | (go_at_call 97; refine (l3SameVotes_c _ _ _ _ _ _ _ _ _ _ _ _ _ (q2.drewN vote_kept _) (q4.drewN vote_kept _)).mono ?_; rintro e w2 ⟨rfl, z2⟩))
      all_goals
        go_ret
        refine ⟨congrArg (fun b => Ending.returned (.bool b)) ?_, ?_⟩
        · simp [h1.out, h2.out]
        · first
            | exact hb0
            | exact below_drewN' hb0 _
            | (obtain ⟨z3, rfl⟩ := z2; exact below_drewN' (below_drewN' hb0 _) _)
            | exact (below_drewN' hb0 _).trans (z2.mono hbs)
    · have h2 := hide e2
      cases e3 : (a.2.2.1 == b.2.2.1)
      · have h3 := hide e3
        go_enter Try.func87, Try.ntmps87
        go_wp2_with (first
          | (go_at_call 96; refine (l3SameClaims_c _ _ _ _ _ _ _ _ _ _ _ _ _ q1 q3).mono ?_; rintro e w1 ⟨rfl, z1, rfl⟩)
          | (go_at_call 97; refine (l3SameVotes_c _ _ _ _ _ _ _ _ _ _ _ _ _ (q2.drewN vote_kept _) (q4.drewN vote_kept _)).mono ?_; rintro e w2 ⟨rfl, z2⟩))
        all_goals
          go_ret
          refine ⟨congrArg (fun b => Ending.returned (.bool b)) ?_, ?_⟩
          · simp [h1.out, h2.out, h3.out]
          · first
              | exact hb0
              | exact below_drewN' hb0 _
              | (obtain ⟨z3, rfl⟩ := z2; exact below_drewN' (below_drewN' hb0 _) _)
              | exact (below_drewN' hb0 _).trans (z2.mono hbs)
      · have h3 := hide e3
        cases e4 : (a.2.2.2.1 == b.2.2.2.1)
        · have h4 := hide e4
          go_enter Try.func87, Try.ntmps87
          go_wp2_with (first
            | (go_at_call 96; refine (l3SameClaims_c _ _ _ _ _ _ _ _ _ _ _ _ _ q1 q3).mono ?_; rintro e w1 ⟨rfl, z1, rfl⟩)
            | (go_at_call 97; refine (l3SameVotes_c _ _ _ _ _ _ _ _ _ _ _ _ _ (q2.drewN vote_kept _) (q4.drewN vote_kept _)).mono ?_; rintro e w2 ⟨rfl, z2⟩))
          all_goals
            go_ret
            refine ⟨congrArg (fun b => Ending.returned (.bool b)) ?_, ?_⟩
            · simp [h1.out, h2.out, h3.out, h4.out]
            · first
                | exact hb0
                | exact below_drewN' hb0 _
                | (obtain ⟨z3, rfl⟩ := z2; exact below_drewN' (below_drewN' hb0 _) _)
                | exact (below_drewN' hb0 _).trans (z2.mono hbs)
        · have h4 := hide e4
          cases e5 : decide (a.2.2.2.2.1 = b.2.2.2.2.1)
          · have h5 := hide e5
            simp only [e5] at hr
            clear e5
            go_enter Try.func87, Try.ntmps87
            go_wp2_with (first
              | (go_at_call 96; refine (l3SameClaims_c _ _ _ _ _ _ _ _ _ _ _ _ _ q1 q3).mono ?_; rintro e w1 ⟨rfl, z1, rfl⟩)
              | (go_at_call 97; refine (l3SameVotes_c _ _ _ _ _ _ _ _ _ _ _ _ _ (q2.drewN vote_kept _) (q4.drewN vote_kept _)).mono ?_; rintro e w2 ⟨rfl, z2⟩))
            all_goals
              go_ret
              refine ⟨congrArg (fun b => Ending.returned (.bool b)) ?_, ?_⟩
              · simp [h1.out, h2.out, h3.out, h4.out, h5.out]
              · first
                  | exact hb0
                  | exact below_drewN' hb0 _
                  | (obtain ⟨z3, rfl⟩ := z2; exact below_drewN' (below_drewN' hb0 _) _)
                  | exact (below_drewN' hb0 _).trans (z2.mono hbs)
          · have h5 := hide e5
            simp only [e5] at hr
            clear e5
            cases e6 : decide (a.2.2.2.2.2.1 = b.2.2.2.2.2.1)
            · have h6 := hide e6
              go_enter Try.func87, Try.ntmps87
              go_wp2_with (first
                | (go_at_call 96; refine (l3SameClaims_c _ _ _ _ _ _ _ _ _ _ _ _ _ q1 q3).mono ?_; rintro e w1 ⟨rfl, z1, rfl⟩; rw [e6])
                | (go_at_call 97; refine (l3SameVotes_c _ _ _ _ _ _ _ _ _ _ _ _ _ (q2.drewN vote_kept _) (q4.drewN vote_kept _)).mono ?_; rintro e w2 ⟨rfl, z2⟩))
              all_goals
                go_ret
                refine ⟨congrArg (fun b => Ending.returned (.bool b)) ?_, ?_⟩
                · simp [h1.out, h2.out, h3.out, h4.out, h5.out, h6.out]
                · first
                    | exact hb0
                    | exact below_drewN' hb0 _
                    | (obtain ⟨z3, rfl⟩ := z2; exact below_drewN' (below_drewN' hb0 _) _)
                    | exact (below_drewN' hb0 _).trans (z2.mono hbs)
            · have h6 := hide e6
              go_enter Try.func87, Try.ntmps87
              go_wp2_with (first
                | (go_at_call 96; refine (l3SameClaims_c _ _ _ _ _ _ _ _ _ _ _ _ _ q1 q3).mono ?_; rintro e w1 ⟨rfl, z1, rfl⟩; rw [e6])
                | (go_at_call 97; refine (l3SameVotes_c _ _ _ _ _ _ _ _ _ _ _ _ _ (q2.drewN vote_kept _) (q4.drewN vote_kept _)).mono ?_; rintro e w2 ⟨rfl, z2⟩))
              all_goals
                go_ret
                refine ⟨congrArg (fun b => Ending.returned (.bool b)) ?_, ?_⟩
                · simp [h1.out, h2.out, h3.out, h4.out, h5.out, h6.out]
                · first
                    | exact hb0
                    | exact below_drewN' hb0 _
                    | (obtain ⟨z3, rfl⟩ := z2; exact below_drewN' (below_drewN' hb0 _) _)
                    | exact (below_drewN' hb0 _).trans (z2.mono hbs)
set_option maxHeartbeats 1000000 in
theorem MsgSame_c (a b : MsgT) (A B A' B' : Option Addr) (n c p d n' c' p' d' lo hi lo' hi' : Nat) (w : World) (hc : RdN 7 clR w lo hi A n c a.2.2.2.2.2.1) (hv : RdN 2 voteR w lo hi B p d a.2.2.2.2.2.2) (hc' : RdN 7 clR w lo' hi' A' n' c' b.2.2.2.2.2.1) (hv' : RdN 2 voteR w lo' hi' B' p' d' b.2.2.2.2.2.2) (hhi : hi ≤ w.heap.size) (hhi' : hi' ≤ w.heap.size) :
    Calls Try.prog 37 #[.agg #[.int .i64 a.1, .int .i64 a.2.1, .int .i64 a.2.2.1, .int .i64 a.2.2.2.1, .int .i64 a.2.2.2.2.1.1, .int .i64 a.2.2.2.2.1.2.1, .int .i64 a.2.2.2.2.1.2.2.1, .int .i64 a.2.2.2.2.1.2.2.2.1, .int .i64 a.2.2.2.2.1.2.2.2.2, .slice A n c, .slice B p d], .agg #[.int .i64 b.1, .int .i64 b.2.1, .int .i64 b.2.2.1, .int .i64 b.2.2.2.1, .int .i64 b.2.2.2.2.1.1, .int .i64 b.2.2.2.2.1.2.1, .int .i64 b.2.2.2.2.1.2.2.1, .int .i64 b.2.2.2.2.1.2.2.2.1, .int .i64 b.2.2.2.2.1.2.2.2.2, .slice A' n' c', .slice B' p' d']] w fun e w' => e = .returned (.bool (decide (a = b))) ∧ Below w.heap.size w w' := by
  rw [msg_ext]
  have hb0 : Below w.heap.size w ((w.alloc (.cells #[.int .i64 a.1, .int .i64 a.2.1, .int .i64 a.2.2.1, .int .i64 a.2.2.2.1, .int .i64 a.2.2.2.2.1.1, .int .i64 a.2.2.2.2.1.2.1, .int .i64 a.2.2.2.2.1.2.2.1, .int .i64 a.2.2.2.2.1.2.2.2.1, .int .i64 a.2.2.2.2.1.2.2.2.2, .slice A n c, .slice B p d] 34)).alloc (.cells #[.int .i64 b.1, .int .i64 b.2.1, .int .i64 b.2.2.1, .int .i64 b.2.2.2.1, .int .i64 b.2.2.2.2.1.1, .int .i64 b.2.2.2.2.1.2.1, .int .i64 b.2.2.2.2.1.2.2.1, .int .i64 b.2.2.2.2.1.2.2.2.1, .int .i64 b.2.2.2.2.1.2.2.2.2, .slice A' n' c', .slice B' p' d'] 34)) := ((Below.refl _ _).alloc (Nat.le_refl _) _).alloc (by simp) _
  have q1 := hc.below (flat_kept _) hb0 hhi
  have q2 := hv.below vote_kept hb0 hhi
  have q3 := hc'.below (flat_kept _) hb0 hhi'
  have q4 := hv'.below vote_kept hb0 hhi'
  have hbs := hb0.size
  have hr := fun w => run_eq_req a.2.2.2.2.1 b.2.2.2.2.1 w
  cases e1 : (a.1 == b.1)
  · have h1 := hide e1
    go_enter Try.func37, Try.ntmps37
    go_wp2_with (first
      | (go_at_call 32; refine (equalClaims_c _ _ _ _ _ _ _ _ _ _ _ _ _ q1 q3).mono ?_; rintro e w1 ⟨rfl, z1, rfl⟩)
      | (go_at_call 62; refine (equalVotes_c _ _ _ _ _ _ _ _ _ _ _ _ _ (q2.drewN vote_kept _) (q4.drewN vote_kept _) (Nat.le_trans hhi hbs) (Nat.le_trans hhi' hbs)).mono ?_; rintro e w2 ⟨rfl, z2⟩))
    all_goals
      go_ret
      refine ⟨congrArg (fun b => Ending.returned (.bool b)) ?_, ?_⟩
      · simp [h1.out]
      · first
          | exact hb0
          | exact below_drewN' hb0 _
          | (obtain ⟨z3, rfl⟩ := z2; exact below_drewN' (below_drewN' hb0 _) _)
          | exact (below_drewN' hb0 _).trans (z2.mono hbs)
  · have h1 := hide e1
    cases e2 : (a.2.1 == b.2.1)
    · have h2 := hide e2
      go_enter Try.func37, Try.ntmps37
      go_wp2_with (first
        | (go_at_call 32; refine (equalClaims_c _ _ _ _ _ _ _ _ _ _ _ _ _ q1 q3).mono ?_; rintro e w1 ⟨rfl, z1, rfl⟩)
        | (go_at_call 62; refine (equalVotes_c _ _ _ _ _ _ _ _ _ _ _ _ _ (q2.drewN vote_kept _) (q4.drewN vote_kept _) (Nat.le_trans hhi hbs) (Nat.le_trans hhi' hbs)).mono ?_; rintro e w2 ⟨rfl, z2⟩))
      all_goals
        go_ret
        refine ⟨congrArg (fun b => Ending.returned (.bool b)) ?_, ?_⟩
        · simp [h1.out, h2.out]
        · first
            | exact hb0
            | exact below_drewN' hb0 _
            | (obtain ⟨z3, rfl⟩ := z2; exact below_drewN' (below_drewN' hb0 _) _)
            | exact (below_drewN' hb0 _).trans (z2.mono hbs)
    · have h2 := hide e2
      cases e3 : (a.2.2.1 == b.2.2.1)
      · have h3 := hide e3
        go_enter Try.func37, Try.ntmps37
        go_wp2_with (first
          | (go_at_call 32; refine (equalClaims_c _ _ _ _ _ _ _ _ _ _ _ _ _ q1 q3).mono ?_; rintro e w1 ⟨rfl, z1, rfl⟩)
          | (go_at_call 62; refine (equalVotes_c _ _ _ _ _ _ _ _ _ _ _ _ _ (q2.drewN vote_kept _) (q4.drewN vote_kept _) (Nat.le_trans hhi hbs) (Nat.le_trans hhi' hbs)).mono ?_; rintro e w2 ⟨rfl, z2⟩))
        all_goals
          go_ret
          refine ⟨congrArg (fun b => Ending.returned (.bool b)) ?_, ?_⟩
          · simp [h1.out, h2.out, h3.out]
          · first
              | exact hb0
              | exact below_drewN' hb0 _
              | (obtain ⟨z3, rfl⟩ := z2; exact below_drewN' (below_drewN' hb0 _) _)
              | exact (below_drewN' hb0 _).trans (z2.mono hbs)
      · have h3 := hide e3
        cases e4 : (a.2.2.2.1 == b.2.2.2.1)
        · have h4 := hide e4
          go_enter Try.func37, Try.ntmps37
          go_wp2_with (first
            | (go_at_call 32; refine (equalClaims_c _ _ _ _ _ _ _ _ _ _ _ _ _ q1 q3).mono ?_; rintro e w1 ⟨rfl, z1, rfl⟩)
            | (go_at_call 62; refine (equalVotes_c _ _ _ _ _ _ _ _ _ _ _ _ _ (q2.drewN vote_kept _) (q4.drewN vote_kept _) (Nat.le_trans hhi hbs) (Nat.le_trans hhi' hbs)).mono ?_; rintro e w2 ⟨rfl, z2⟩))
          all_goals
            go_ret
            refine ⟨congrArg (fun b => Ending.returned (.bool b)) ?_, ?_⟩
            · simp [h1.out, h2.out, h3.out, h4.out]
            · first
                | exact hb0
                | exact below_drewN' hb0 _
                | (obtain ⟨z3, rfl⟩ := z2; exact below_drewN' (below_drewN' hb0 _) _)
                | exact (below_drewN' hb0 _).trans (z2.mono hbs)
        · have h4 := hide e4
          cases e5 : decide (a.2.2.2.2.1 = b.2.2.2.2.1)
          · have h5 := hide e5
            simp only [e5] at hr
            clear e5
            go_enter Try.func37, Try.ntmps37
            go_wp2_with (first
              | (go_at_call 32; refine (equalClaims_c _ _ _ _ _ _ _ _ _ _ _ _ _ q1 q3).mono ?_; rintro e w1 ⟨rfl, z1, rfl⟩)
              | (go_at_call 62; refine (equalVotes_c _ _ _ _ _ _ _ _ _ _ _ _ _ (q2.drewN vote_kept _) (q4.drewN vote_kept _) (Nat.le_trans hhi hbs) (Nat.le_trans hhi' hbs)).mono ?_; rintro e w2 ⟨rfl, z2⟩))
            all_goals
              go_ret
              refine ⟨congrArg (fun b => Ending.returned (.bool b)) ?_, ?_⟩
              · simp [h1.out, h2.out, h3.out, h4.out, h5.out]
              · first
                  | exact hb0
                  | exact below_drewN' hb0 _
                  | (obtain ⟨z3, rfl⟩ := z2; exact below_drewN' (below_drewN' hb0 _) _)
                  | exact (below_drewN' hb0 _).trans (z2.mono hbs)
          · have h5 := hide e5
            simp only [e5] at hr
            clear e5
            cases e6 : decide (a.2.2.2.2.2.1 = b.2.2.2.2.2.1)
            · have h6 := hide e6
              go_enter Try.func37, Try.ntmps37
              go_wp2_with (first
                | (go_at_call 32; refine (equalClaims_c _ _ _ _ _ _ _ _ _ _ _ _ _ q1 q3).mono ?_; rintro e w1 ⟨rfl, z1, rfl⟩; rw [e6])
                | (go_at_call 62; refine (equalVotes_c _ _ _ _ _ _ _ _ _ _ _ _ _ (q2.drewN vote_kept _) (q4.drewN vote_kept _) (Nat.le_trans hhi hbs) (Nat.le_trans hhi' hbs)).mono ?_; rintro e w2 ⟨rfl, z2⟩))
              all_goals
                go_ret
                refine ⟨congrArg (fun b => Ending.returned (.bool b)) ?_, ?_⟩
                · simp [h1.out, h2.out, h3.out, h4.out, h5.out, h6.out]
                · first
                    | exact hb0
                    | exact below_drewN' hb0 _
                    | (obtain ⟨z3, rfl⟩ := z2; exact below_drewN' (below_drewN' hb0 _) _)
                    | exact (below_drewN' hb0 _).trans (z2.mono hbs)
            · have h6 := hide e6
              go_enter Try.func37, Try.ntmps37
              go_wp2_with (first
                | (go_at_call 32; refine (equalClaims_c _ _ _ _ _ _ _ _ _ _ _ _ _ q1 q3).mono ?_; rintro e w1 ⟨rfl, z1, rfl⟩; rw [e6])
                | (go_at_call 62; refine (equalVotes_c _ _ _ _ _ _ _ _ _ _ _ _ _ (q2.drewN vote_kept _) (q4.drewN vote_kept _) (Nat.le_trans hhi hbs) (Nat.le_trans hhi' hbs)).mono ?_; rintro e w2 ⟨rfl, z2⟩))
              all_goals
                go_ret
                refine ⟨congrArg (fun b => Ending.returned (.bool b)) ?_, ?_⟩
                · simp [h1.out, h2.out, h3.out, h4.out, h5.out, h6.out]
                · first
                    | exact hb0
                    | exact below_drewN' hb0 _
                    | (obtain ⟨z3, rfl⟩ := z2; exact below_drewN' (below_drewN' hb0 _) _)
                    | exact (below_drewN' hb0 _).trans (z2.mono hbs)
end Go.Proofs.Ytopmbnnjhoinkaa
