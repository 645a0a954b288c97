/-
  What 'FCe' rests on (texts of this seat put together: ND).
  Conditions: none.
-/
import Derived.Test.YtopmbnnjhoinkaaZZ4
namespace Go.Proofs.Ytopmbnnjhoinkaa
open Go.RowKit Rg
set_option linter.unusedVariables false
set_option linter.unusedSimpArgs false
set_option maxHeartbeats 1000000
theorem RdN.drewN {α : Type} {sz : Nat} {R : ElR α} {w : World} {lo hi : Nat} {A : Option Addr} {n c : Nat} {ts : List α} (h : RdN sz R w lo hi A n c ts) (K : Kept R) (z : Nat) : RdN sz R (w.drewN z) lo hi A n c ts := h.keep K fun _ _ _ => rfl
theorem msg_ext (a b : MsgT) : decide (a = b) = ((a.1 == b.1) && ((a.2.1 == b.2.1) && ((a.2.2.1 == b.2.2.1) && ((a.2.2.2.1 == b.2.2.2.1) && (decide (a.2.2.2.2.1 = b.2.2.2.2.1) && (decide (a.2.2.2.2.2.1 = b.2.2.2.2.2.1) && decide (a.2.2.2.2.2.2 = b.2.2.2.2.2.2))))))) := by
  rw [Bool.eq_iff_iff]
  simp [Prod.ext_iff]
set_option maxHeartbeats 1000000 in
theorem l3Same_c (a b : MsgT) (A B A' B' : Option Addr) (n c p d n' c' p' d' lo hi lo' hi' : Nat) (w : World) (hc : RdN 7 clR w lo hi A n c a.2.2.2.2.2.1) (hv : RdN 2 voteR w lo hi B p d a.2.2.2.2.2.2) (hc' : RdN 7 clR w lo' hi' A' n' c' b.2.2.2.2.2.1) (hv' : RdN 2 voteR w lo' hi' B' p' d' b.2.2.2.2.2.2) (hhi : hi ≤ w.heap.size) (hhi' : hi' ≤ w.heap.size) :
    Calls Try.prog 87 #[.agg #[.int .i64 a.1, .int .i64 a.2.1, .int .i64 a.2.2.1, .int .i64 a.2.2.2.1, .int .i64 a.2.2.2.2.1.1, .int .i64 a.2.2.2.2.1.2.1, .int .i64 a.2.2.2.2.1.2.2.1, .int .i64 a.2.2.2.2.1.2.2.2.1, .int .i64 a.2.2.2.2.1.2.2.2.2, .slice A n c, .slice B p d], .agg #[.int .i64 b.1, .int .i64 b.2.1, .int .i64 b.2.2.1, .int .i64 b.2.2.2.1, .int .i64 b.2.2.2.2.1.1, .int .i64 b.2.2.2.2.1.2.1, .int .i64 b.2.2.2.2.1.2.2.1, .int .i64 b.2.2.2.2.1.2.2.2.1, .int .i64 b.2.2.2.2.1.2.2.2.2, .slice A' n' c', .slice B' p' d']] w fun e w' => e = .returned (.bool (decide (a = b))) ∧ Below w.heap.size w w' := by
  rw [msg_ext]
  have hb0 : Below w.heap.size w ((w.alloc (.cells #[.int .i64 a.1, .int .i64 a.2.1, .int .i64 a.2.2.1, .int .i64 a.2.2.2.1, .int .i64 a.2.2.2.2.1.1, .int .i64 a.2.2.2.2.1.2.1, .int .i64 a.2.2.2.2.1.2.2.1, .int .i64 a.2.2.2.2.1.2.2.2.1, .int .i64 a.2.2.2.2.1.2.2.2.2, .slice A n c, .slice B p d] 34)).alloc (.cells #[.int .i64 b.1, .int .i64 b.2.1, .int .i64 b.2.2.1, .int .i64 b.2.2.2.1, .int .i64 b.2.2.2.2.1.1, .int .i64 b.2.2.2.2.1.2.1, .int .i64 b.2.2.2.2.1.2.2.1, .int .i64 b.2.2.2.2.1.2.2.2.1, .int .i64 b.2.2.2.2.1.2.2.2.2, .slice A' n' c', .slice B' p' d'] 34)) := ((Below.refl _ _).alloc (Nat.le_refl _) _).alloc (by simp) _
  have q1 := hc.below (flat_kept _) hb0 hhi
  have q2 := hv.below vote_kept hb0 hhi
  have q3 := hc'.below (flat_kept _) hb0 hhi'
  have q4 := hv'.below vote_kept hb0 hhi'
  have hbs := hb0.size
  have hr := fun w => run_eq_req a.2.2.2.2.1 b.2.2.2.2.1 w
  cases e1 : (a.1 == b.1)
  · have h1 := hide e1
    go_enter Try.func87, Try.ntmps87
    go_wp2_with (first
      | (go_at_call 96; refine (l3SameClaims_c _ _ _ _ _ _ _ _ _ _ _ _ _ q1 q3).mono ?_; rintro e w1 ⟨rfl, z1, rfl⟩)
      | (go_at_call 97; refine (l3SameVotes_c _ _ _ _ _ _ _ _ _ _ _ _ _ (q2.drewN vote_kept _) (q4.drewN vote_kept _)).mono ?_; rintro e w2 ⟨rfl, z2⟩))
    all_goals
      go_ret
      refine ⟨congrArg (fun b => Ending.returned (.bool b)) ?_, ?_⟩
      · simp [h1.out]
      · first
          | exact hb0
          | exact below_drewN' hb0 _
          | (obtain ⟨z3, rfl⟩ := z2; exact below_drewN' (below_drewN' hb0 _) _)
          | exact (below_drewN' hb0 _).trans (z2.mono hbs)
  · have h1 := hide e1
    cases e2 : (a.2.1 == b.2.1)
    · have h2 := hide e2
      go_enter Try.func87, Try.ntmps87
      go_wp2_with (first
        | (go_at_call 96; refine (l3SameClaims_c _ _ _ _ _ _ _ _ _ _ _ _ _ q1 q3).mono ?_; rintro e w1 ⟨rfl, z1, rfl⟩)
        | (go_at_call 97; refine (l3SameVotes_c _ _ _ _ _ _ _ _ _ _ _ _ _ (q2.drewN vote_kept _) (q4.drewN vote_kept _)).mono ?_; rintro e w2 ⟨rfl, z2⟩))
      all_goals
        go_ret
        refine ⟨congrArg (fun b => Ending.returned (.bool b)) ?_, ?_⟩
        · simp [h1.out, h2.out]
        · first
            | exact hb0
            | exact below_drewN' hb0 _
            | (obtain ⟨z3, rfl⟩ := z2; exact below_drewN' (below_drewN' hb0 _) _)
            | exact (below_drewN' hb0 _).trans (z2.mono hbs)
    · have h2 := hide e2
      cases e3 : (a.2.2.1 == b.2.2.1)
      · have h3 := hide e3
        go_enter Try.func87, Try.ntmps87
        go_wp2_with (first
          | (go_at_call 96; refine (l3SameClaims_c _ _ _ _ _ _ _ _ _ _ _ _ _ q1 q3).mono ?_; rintro e w1 ⟨rfl, z1, rfl⟩)
          | (go_at_call 97; refine (l3SameVotes_c _ _ _ _ _ _ _ _ _ _ _ _ _ (q2.drewN vote_kept _) (q4.drewN vote_kept _)).mono ?_; rintro e w2 ⟨rfl, z2⟩))
        all_goals
          go_ret
          refine ⟨congrArg (fun b => Ending.returned (.bool b)) ?_, ?_⟩
          · simp [h1.out, h2.out, h3.out]
          · first
              | exact hb0
              | exact below_drewN' hb0 _
              | (obtain ⟨z3, rfl⟩ := z2; exact below_drewN' (below_drewN' hb0 _) _)
              | exact (below_drewN' hb0 _).trans (z2.mono hbs)
      · have h3 := hide e3
        cases e4 : (a.2.2.2.1 == b.2.2.2.1)
        · have h4 := hide e4
          go_enter Try.func87, Try.ntmps87
          go_wp2_with (first
            | (go_at_call 96; refine (l3SameClaims_c _ _ _ _ _ _ _ _ _ _ _ _ _ q1 q3).mono ?_; rintro e w1 ⟨rfl, z1, rfl⟩)
            | (go_at_call 97; refine (l3SameVotes_c _ _ _ _ _ _ _ _ _ _ _ _ _ (q2.drewN vote_kept _) (q4.drewN vote_kept _)).mono ?_; rintro e w2 ⟨rfl, z2⟩))
          all_goals
            go_ret
            refine ⟨congrArg (fun b => Ending.returned (.bool b)) ?_, ?_⟩
            · simp [h1.out, h2.out, h3.out, h4.out]
            · first
                | exact hb0
                | exact below_drewN' hb0 _
                | (obtain ⟨z3, rfl⟩ := z2; exact below_drewN' (below_drewN' hb0 _) _)
                | exact (below_drewN' hb0 _).trans (z2.mono hbs)
        · have h4 := hide e4
          cases e5 : decide (a.2.2.2.2.1 = b.2.2.2.2.1)
          · have h5 := hide e5
            simp only [e5] at hr
            clear e5
            go_enter Try.func87, Try.ntmps87
            go_wp2_with (first
              | (go_at_call 96; refine (l3SameClaims_c _ _ _ _ _ _ _ _ _ _ _ _ _ q1 q3).mono ?_; rintro e w1 ⟨rfl, z1, rfl⟩)
              | (go_at_call 97; refine (l3SameVotes_c _ _ _ _ _ _ _ _ _ _ _ _ _ (q2.drewN vote_kept _) (q4.drewN vote_kept _)).mono ?_; rintro e w2 ⟨rfl, z2⟩))
            all_goals
              go_ret
              refine ⟨congrArg (fun b => Ending.returned (.bool b)) ?_, ?_⟩
              · simp [h1.out, h2.out, h3.out, h4.out, h5.out]
              · first
                  | exact hb0
                  | exact below_drewN' hb0 _
                  | (obtain ⟨z3, rfl⟩ := z2; exact below_drewN' (below_drewN' hb0 _) _)
                  | exact (below_drewN' hb0 _).trans (z2.mono hbs)
          · have h5 := hide e5
            simp only [e5] at hr
            clear e5
            cases e6 : decide (a.2.2.2.2.2.1 = b.2.2.2.2.2.1)
            · have h6 := hide e6
              go_enter Try.func87, Try.ntmps87
              go_wp2_with (first
                | (go_at_call 96; refine (l3SameClaims_c _ _ _ _ _ _ _ _ _ _ _ _ _ q1 q3).mono ?_; rintro e w1 ⟨rfl, z1, rfl⟩; rw [e6])
                | (go_at_call 97; refine (l3SameVotes_c _ _ _ _ _ _ _ _ _ _ _ _ _ (q2.drewN vote_kept _) (q4.drewN vote_kept _)).mono ?_; rintro e w2 ⟨rfl, z2⟩))
              all_goals
                go_ret
                refine ⟨congrArg (fun b => Ending.returned (.bool b)) ?_, ?_⟩
                · simp [h1.out, h2.out, h3.out, h4.out, h5.out, h6.out]
                · first
                    | exact hb0
                    | exact below_drewN' hb0 _
                    | (obtain ⟨z3, rfl⟩ := z2; exact below_drewN' (below_drewN' hb0 _) _)
                    | exact (below_drewN' hb0 _).trans (z2.mono hbs)
            · have h6 := hide e6
              go_enter Try.func87, Try.ntmps87
              go_wp2_with (first
                | (go_at_call 96; refine (l3SameClaims_c _ _ _ _ _ _ _ _ _ _ _ _ _ q1 q3).mono ?_; rintro e w1 ⟨rfl, z1, rfl⟩; rw [e6])
                | (go_at_call 97; refine (l3SameVotes_c _ _ _ _ _ _ _ _ _ _ _ _ _ (q2.drewN vote_kept _) (q4.drewN vote_kept _)).mono ?_; rintro e w2 ⟨rfl, z2⟩))
              all_goals
                go_ret
                refine ⟨congrArg (fun b => Ending.returned (.bool b)) ?_, ?_⟩
                · simp [h1.out, h2.out, h3.out, h4.out, h5.out, h6.out]
                · first
                    | exact hb0
                    | exact below_drewN' hb0 _
                    | (obtain ⟨z3, rfl⟩ := z2; exact below_drewN' (below_drewN' hb0 _) _)
                    | exact (below_drewN' hb0 _).trans (z2.mono hbs)
end Go.Proofs.Ytopmbnnjhoinkaa
