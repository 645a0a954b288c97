/-
  What 'FVd' rests on (texts of this seat put together: NH).
  Conditions: none.
-/
import Derived.Test.YtopmbnnjhoinkaaVV11
import Derived.Test.YtopmbnnjhoinkaaVV7
namespace Go.Proofs.Ytopmbnnjhoinkaa
open Go.RowKit Rg
set_option linter.unusedVariables false
set_option linter.unusedSimpArgs false
set_option maxHeartbeats 1000000
theorem wrap_sum {n p : Nat} (hn : n ≤ 9223372036854775807) (hp : p ≤ 9223372036854775807) (h : ¬ n + p = 0) : (wrap64 ((n : Int) + (p : Int)) == 0) = false := by
  simp only [beq_eq_false_iff_ne, ne_eq]
  unfold wrap64
  omega
set_option maxHeartbeats 4000000 in
theorem l3Ok_v (kd f v s a b c0 x y : Int) (cs : List ClaimT) (vs : List VoteT) (A B : Option Addr) (n c p d lo hi : Nat) (w : World) (hc : RdN 7 clR w lo hi A n c cs) (hv : RdN 2 voteR w lo hi B p d vs) (hhi : hi ≤ w.heap.size) :
    Calls Try.prog 81 #[.agg #[.int .i64 kd, .int .i64 f, .int .i64 v, .int .i64 s, .int .i64 a, .int .i64 b, .int .i64 c0, .int .i64 x, .int .i64 y, .slice A n c, .slice B p d]] w fun e w' => e = .returned (.bool (okMsg (kd, f, v, s, (a, b, c0, x, y), cs, vs))) ∧ Below w.heap.size w w' := by
  have hn' := hide hc.len
  have hp' := hide hv.len
  have hcm : n ≤ c ∧ c ≤ maxLen := ⟨hc.cap, hc.max⟩
  have hvm : p ≤ d ∧ d ≤ maxLen := ⟨hv.cap, hv.max⟩
  unfold maxLen at hcm hvm
  obtain ⟨hc1, hc2⟩ := hcm
  obtain ⟨hv1, hv2⟩ := hvm
  have hB : Below w.heap.size w (w.alloc (.cells #[.int .i64 kd, .int .i64 f, .int .i64 v, .int .i64 s, .int .i64 a, .int .i64 b, .int .i64 c0, .int .i64 x, .int .i64 y, .slice A n c, .slice B p d] 34)) := (Below.refl _ _).alloc (Nat.le_refl _) _
  have x1 : (w.alloc (.cells #[.int .i64 kd, .int .i64 f, .int .i64 v, .int .i64 s, .int .i64 a, .int .i64 b, .int .i64 c0, .int .i64 x, .int .i64 y, .slice A n c, .slice B p d] 34)).cell? ⟨w.heap.size, 1, none⟩ = some (.int .i64 f) := by simp
  have x2 : (w.alloc (.cells #[.int .i64 kd, .int .i64 f, .int .i64 v, .int .i64 s, .int .i64 a, .int .i64 b, .int .i64 c0, .int .i64 x, .int .i64 y, .slice A n c, .slice B p d] 34)).cell? ⟨w.heap.size, 2, none⟩ = some (.int .i64 v) := by simp
  have x3 : (w.alloc (.cells #[.int .i64 kd, .int .i64 f, .int .i64 v, .int .i64 s, .int .i64 a, .int .i64 b, .int .i64 c0, .int .i64 x, .int .i64 y, .slice A n c, .slice B p d] 34)).cell? ⟨w.heap.size, 3, none⟩ = some (.int .i64 s) := by simp
  have x4 : (w.alloc (.cells #[.int .i64 kd, .int .i64 f, .int .i64 v, .int .i64 s, .int .i64 a, .int .i64 b, .int .i64 c0, .int .i64 x, .int .i64 y, .slice A n c, .slice B p d] 34)).cell? ⟨w.heap.size, 4, none⟩ = some (.int .i64 a) := by simp
  have x5 : (w.alloc (.cells #[.int .i64 kd, .int .i64 f, .int .i64 v, .int .i64 s, .int .i64 a, .int .i64 b, .int .i64 c0, .int .i64 x, .int .i64 y, .slice A n c, .slice B p d] 34)).cell? ⟨w.heap.size, 5, none⟩ = some (.int .i64 b) := by simp
  have x6 : (w.alloc (.cells #[.int .i64 kd, .int .i64 f, .int .i64 v, .int .i64 s, .int .i64 a, .int .i64 b, .int .i64 c0, .int .i64 x, .int .i64 y, .slice A n c, .slice B p d] 34)).cell? ⟨w.heap.size, 6, none⟩ = some (.int .i64 c0) := by simp
  have x7 : (w.alloc (.cells #[.int .i64 kd, .int .i64 f, .int .i64 v, .int .i64 s, .int .i64 a, .int .i64 b, .int .i64 c0, .int .i64 x, .int .i64 y, .slice A n c, .slice B p d] 34)).cell? ⟨w.heap.size, 7, none⟩ = some (.int .i64 x) := by simp
  have x8 : (w.alloc (.cells #[.int .i64 kd, .int .i64 f, .int .i64 v, .int .i64 s, .int .i64 a, .int .i64 b, .int .i64 c0, .int .i64 x, .int .i64 y, .slice A n c, .slice B p d] 34)).cell? ⟨w.heap.size, 8, none⟩ = some (.int .i64 y) := by simp
  have x9 : (w.alloc (.cells #[.int .i64 kd, .int .i64 f, .int .i64 v, .int .i64 s, .int .i64 a, .int .i64 b, .int .i64 c0, .int .i64 x, .int .i64 y, .slice A n c, .slice B p d] 34)).cell? ⟨w.heap.size, 9, none⟩ = some (.slice A n c) := by simp
  have x10 : (w.alloc (.cells #[.int .i64 kd, .int .i64 f, .int .i64 v, .int .i64 s, .int .i64 a, .int .i64 b, .int .i64 c0, .int .i64 x, .int .i64 y, .slice A n c, .slice B p d] 34)).cell? ⟨w.heap.size, 10, none⟩ = some (.slice B p d) := by simp
  have z1 : Hid (decide (cs.length + vs.length = 0) = ((n : Int) + (p : Int) == 0)) := hide (by have h1 := hn'.out; have h2 := hp'.out; rw [h1, h2, Bool.eq_iff_iff, decide_eq_true_eq, beq_iff_eq]; omega)
  have z2 : Hid (decide (cs.length = 0) = ((n : Int) == 0)) := hide (by rw [hn'.out, Bool.eq_iff_iff]; simp)
  have z3 : Hid (decide (vs.length = 0) = ((p : Int) == 0)) := hide (by rw [hp'.out, Bool.eq_iff_iff]; simp)
  by_cases k1 : kd = 1
  · subst k1
    by_cases hf : f = 0
    · subst hf
      by_cases hv : v = 0
      · subst hv
        by_cases hs : s = 0
        · subst hs
          by_cases h0 : n + p = 0
          · obtain ⟨rfl, rfl⟩ : n = 0 ∧ p = 0 := by omega
            go_enter Try.func81, Try.ntmps81
            go_wp2_with (first
              | (go_at_call 34; refine (l1In_c _ _ _ _).mono ?_; rintro e w' ⟨rfl, rfl⟩)
              | (go_at_call 49; refine (l1Ok_c _ _ _ _ _ _).mono ?_; rintro e w1 ⟨rfl, hb1⟩; have hB := hB.trans (hb1.mono hB.size); have x1 := keepc hb1 x1; have x2 := keepc hb1 x2; have x3 := keepc hb1 x3; have x4 := keepc hb1 x4; have x5 := keepc hb1 x5; have x6 := keepc hb1 x6; have x7 := keepc hb1 x7; have x8 := keepc hb1 x8; have x9 := keepc hb1 x9; have x10 := keepc hb1 x10)
              | (go_at_call 48; refine (l1None_c _ _ _ _ _ _).mono ?_; rintro e w1 ⟨rfl, hb1⟩; have hB := hB.trans (hb1.mono hB.size); have x1 := keepc hb1 x1; have x2 := keepc hb1 x2; have x3 := keepc hb1 x3; have x4 := keepc hb1 x4; have x5 := keepc hb1 x5; have x6 := keepc hb1 x6; have x7 := keepc hb1 x7; have x8 := keepc hb1 x8; have x9 := keepc hb1 x9; have x10 := keepc hb1 x10)
              | (go_at_call 78; refine (l3ClaimsOk_c _ _ _ lo hi _ _ (hc.below (flat_kept _) hB hhi) (Nat.le_trans hhi hB.size)).mono ?_; rintro e w1 ⟨rfl, hb1⟩; have hB := hB.trans (hb1.mono hB.size); have x1 := keepc hb1 x1; have x2 := keepc hb1 x2; have x3 := keepc hb1 x3; have x4 := keepc hb1 x4; have x5 := keepc hb1 x5; have x6 := keepc hb1 x6; have x7 := keepc hb1 x7; have x8 := keepc hb1 x8; have x9 := keepc hb1 x9; have x10 := keepc hb1 x10)
              | (go_at_call 61; refine (l3VotesOk_c _ _ _ lo hi _ _ (hv.below vote_kept hB hhi) (Nat.le_trans hhi hB.size)).mono ?_; rintro e w1 ⟨rfl, hb1⟩; have hB := hB.trans (hb1.mono hB.size); have x1 := keepc hb1 x1; have x2 := keepc hb1 x2; have x3 := keepc hb1 x3; have x4 := keepc hb1 x4; have x5 := keepc hb1 x5; have x6 := keepc hb1 x6; have x7 := keepc hb1 x7; have x8 := keepc hb1 x8; have x9 := keepc hb1 x9; have x10 := keepc hb1 x10))
            all_goals
              go_ret
              refine ⟨congrArg (fun b => Ending.returned (.bool b)) ?_, hB⟩
              have z1 := z1.out
              have z2 := z2.out
              have z3 := z3.out
              simp only [okMsg, z1, z2, z3]
              clear z1 z2 z3 hn' hp'
              simp [okN, *]
          · have zw : (wrap64 ((n : Int) + (p : Int)) == 0) = false := wrap_sum (by omega) (by omega) h0
            have zx : ((n : Int) + (p : Int) == 0) = false := by simp; omega
            go_enter Try.func81, Try.ntmps81
            go_wp2_with (first
              | (go_at_call 34; refine (l1In_c _ _ _ _).mono ?_; rintro e w' ⟨rfl, rfl⟩)
              | (go_at_call 49; refine (l1Ok_c _ _ _ _ _ _).mono ?_; rintro e w1 ⟨rfl, hb1⟩; have hB := hB.trans (hb1.mono hB.size); have x1 := keepc hb1 x1; have x2 := keepc hb1 x2; have x3 := keepc hb1 x3; have x4 := keepc hb1 x4; have x5 := keepc hb1 x5; have x6 := keepc hb1 x6; have x7 := keepc hb1 x7; have x8 := keepc hb1 x8; have x9 := keepc hb1 x9; have x10 := keepc hb1 x10)
              | (go_at_call 48; refine (l1None_c _ _ _ _ _ _).mono ?_; rintro e w1 ⟨rfl, hb1⟩; have hB := hB.trans (hb1.mono hB.size); have x1 := keepc hb1 x1; have x2 := keepc hb1 x2; have x3 := keepc hb1 x3; have x4 := keepc hb1 x4; have x5 := keepc hb1 x5; have x6 := keepc hb1 x6; have x7 := keepc hb1 x7; have x8 := keepc hb1 x8; have x9 := keepc hb1 x9; have x10 := keepc hb1 x10)
              | (go_at_call 78; refine (l3ClaimsOk_c _ _ _ lo hi _ _ (hc.below (flat_kept _) hB hhi) (Nat.le_trans hhi hB.size)).mono ?_; rintro e w1 ⟨rfl, hb1⟩; have hB := hB.trans (hb1.mono hB.size); have x1 := keepc hb1 x1; have x2 := keepc hb1 x2; have x3 := keepc hb1 x3; have x4 := keepc hb1 x4; have x5 := keepc hb1 x5; have x6 := keepc hb1 x6; have x7 := keepc hb1 x7; have x8 := keepc hb1 x8; have x9 := keepc hb1 x9; have x10 := keepc hb1 x10)
              | (go_at_call 61; refine (l3VotesOk_c _ _ _ lo hi _ _ (hv.below vote_kept hB hhi) (Nat.le_trans hhi hB.size)).mono ?_; rintro e w1 ⟨rfl, hb1⟩; have hB := hB.trans (hb1.mono hB.size); have x1 := keepc hb1 x1; have x2 := keepc hb1 x2; have x3 := keepc hb1 x3; have x4 := keepc hb1 x4; have x5 := keepc hb1 x5; have x6 := keepc hb1 x6; have x7 := keepc hb1 x7; have x8 := keepc hb1 x8; have x9 := keepc hb1 x9; have x10 := keepc hb1 x10))
            all_goals
              go_ret
              refine ⟨congrArg (fun b => Ending.returned (.bool b)) ?_, hB⟩
              have z1 := z1.out
              have z2 := z2.out
              have z3 := z3.out
              simp only [okMsg, z1, z2, z3]
              clear z1 z2 z3 hn' hp'
              simp [okN, *]
        · have gs : (s == 0) = false := by simpa using hs
          go_enter Try.func81, Try.ntmps81
          go_wp2_with (first
            | (go_at_call 34; refine (l1In_c _ _ _ _).mono ?_; rintro e w' ⟨rfl, rfl⟩)
            | (go_at_call 49; refine (l1Ok_c _ _ _ _ _ _).mono ?_; rintro e w1 ⟨rfl, hb1⟩; have hB := hB.trans (hb1.mono hB.size); have x1 := keepc hb1 x1; have x2 := keepc hb1 x2; have x3 := keepc hb1 x3; have x4 := keepc hb1 x4; have x5 := keepc hb1 x5; have x6 := keepc hb1 x6; have x7 := keepc hb1 x7; have x8 := keepc hb1 x8; have x9 := keepc hb1 x9; have x10 := keepc hb1 x10)
            | (go_at_call 48; refine (l1None_c _ _ _ _ _ _).mono ?_; rintro e w1 ⟨rfl, hb1⟩; have hB := hB.trans (hb1.mono hB.size); have x1 := keepc hb1 x1; have x2 := keepc hb1 x2; have x3 := keepc hb1 x3; have x4 := keepc hb1 x4; have x5 := keepc hb1 x5; have x6 := keepc hb1 x6; have x7 := keepc hb1 x7; have x8 := keepc hb1 x8; have x9 := keepc hb1 x9; have x10 := keepc hb1 x10)
            | (go_at_call 78; refine (l3ClaimsOk_c _ _ _ lo hi _ _ (hc.below (flat_kept _) hB hhi) (Nat.le_trans hhi hB.size)).mono ?_; rintro e w1 ⟨rfl, hb1⟩; have hB := hB.trans (hb1.mono hB.size); have x1 := keepc hb1 x1; have x2 := keepc hb1 x2; have x3 := keepc hb1 x3; have x4 := keepc hb1 x4; have x5 := keepc hb1 x5; have x6 := keepc hb1 x6; have x7 := keepc hb1 x7; have x8 := keepc hb1 x8; have x9 := keepc hb1 x9; have x10 := keepc hb1 x10)
            | (go_at_call 61; refine (l3VotesOk_c _ _ _ lo hi _ _ (hv.below vote_kept hB hhi) (Nat.le_trans hhi hB.size)).mono ?_; rintro e w1 ⟨rfl, hb1⟩; have hB := hB.trans (hb1.mono hB.size); have x1 := keepc hb1 x1; have x2 := keepc hb1 x2; have x3 := keepc hb1 x3; have x4 := keepc hb1 x4; have x5 := keepc hb1 x5; have x6 := keepc hb1 x6; have x7 := keepc hb1 x7; have x8 := keepc hb1 x8; have x9 := keepc hb1 x9; have x10 := keepc hb1 x10))
          all_goals
            go_ret
            refine ⟨congrArg (fun b => Ending.returned (.bool b)) ?_, hB⟩
            have z1 := z1.out
            have z2 := z2.out
            have z3 := z3.out
            simp only [okMsg, z1, z2, z3]
            clear z1 z2 z3 hn' hp'
            simp [okN, *]
      · have gv : (v == 0) = false := by simpa using hv
        go_enter Try.func81, Try.ntmps81
        go_wp2_with (first
          | (go_at_call 34; refine (l1In_c _ _ _ _).mono ?_; rintro e w' ⟨rfl, rfl⟩)
          | (go_at_call 49; refine (l1Ok_c _ _ _ _ _ _).mono ?_; rintro e w1 ⟨rfl, hb1⟩; have hB := hB.trans (hb1.mono hB.size); have x1 := keepc hb1 x1; have x2 := keepc hb1 x2; have x3 := keepc hb1 x3; have x4 := keepc hb1 x4; have x5 := keepc hb1 x5; have x6 := keepc hb1 x6; have x7 := keepc hb1 x7; have x8 := keepc hb1 x8; have x9 := keepc hb1 x9; have x10 := keepc hb1 x10)
          | (go_at_call 48; refine (l1None_c _ _ _ _ _ _).mono ?_; rintro e w1 ⟨rfl, hb1⟩; have hB := hB.trans (hb1.mono hB.size); have x1 := keepc hb1 x1; have x2 := keepc hb1 x2; have x3 := keepc hb1 x3; have x4 := keepc hb1 x4; have x5 := keepc hb1 x5; have x6 := keepc hb1 x6; have x7 := keepc hb1 x7; have x8 := keepc hb1 x8; have x9 := keepc hb1 x9; have x10 := keepc hb1 x10)
          | (go_at_call 78; refine (l3ClaimsOk_c _ _ _ lo hi _ _ (hc.below (flat_kept _) hB hhi) (Nat.le_trans hhi hB.size)).mono ?_; rintro e w1 ⟨rfl, hb1⟩; have hB := hB.trans (hb1.mono hB.size); have x1 := keepc hb1 x1; have x2 := keepc hb1 x2; have x3 := keepc hb1 x3; have x4 := keepc hb1 x4; have x5 := keepc hb1 x5; have x6 := keepc hb1 x6; have x7 := keepc hb1 x7; have x8 := keepc hb1 x8; have x9 := keepc hb1 x9; have x10 := keepc hb1 x10)
          | (go_at_call 61; refine (l3VotesOk_c _ _ _ lo hi _ _ (hv.below vote_kept hB hhi) (Nat.le_trans hhi hB.size)).mono ?_; rintro e w1 ⟨rfl, hb1⟩; have hB := hB.trans (hb1.mono hB.size); have x1 := keepc hb1 x1; have x2 := keepc hb1 x2; have x3 := keepc hb1 x3; have x4 := keepc hb1 x4; have x5 := keepc hb1 x5; have x6 := keepc hb1 x6; have x7 := keepc hb1 x7; have x8 := keepc hb1 x8; have x9 := keepc hb1 x9; have x10 := keepc hb1 x10))
        all_goals
          go_ret
          refine ⟨congrArg (fun b => Ending.returned (.bool b)) ?_, hB⟩
          have z1 := z1.out
          have z2 := z2.out
          have z3 := z3.out
          simp only [okMsg, z1, z2, z3]
          clear z1 z2 z3 hn' hp'
          simp [okN, *]
    · have gf : (f == 0) = false := by simpa using hf
      go_enter Try.func81, Try.ntmps81
      go_wp2_with (first
        | (go_at_call 34; refine (l1In_c _ _ _ _).mono ?_; rintro e w' ⟨rfl, rfl⟩)
        | (go_at_call 49; refine (l1Ok_c _ _ _ _ _ _).mono ?_; rintro e w1 ⟨rfl, hb1⟩; have hB := hB.trans (hb1.mono hB.size); have x1 := keepc hb1 x1; have x2 := keepc hb1 x2; have x3 := keepc hb1 x3; have x4 := keepc hb1 x4; have x5 := keepc hb1 x5; have x6 := keepc hb1 x6; have x7 := keepc hb1 x7; have x8 := keepc hb1 x8; have x9 := keepc hb1 x9; have x10 := keepc hb1 x10)
        | (go_at_call 48; refine (l1None_c _ _ _ _ _ _).mono ?_; rintro e w1 ⟨rfl, hb1⟩; have hB := hB.trans (hb1.mono hB.size); have x1 := keepc hb1 x1; have x2 := keepc hb1 x2; have x3 := keepc hb1 x3; have x4 := keepc hb1 x4; have x5 := keepc hb1 x5; have x6 := keepc hb1 x6; have x7 := keepc hb1 x7; have x8 := keepc hb1 x8; have x9 := keepc hb1 x9; have x10 := keepc hb1 x10)
        | (go_at_call 78; refine (l3ClaimsOk_c _ _ _ lo hi _ _ (hc.below (flat_kept _) hB hhi) (Nat.le_trans hhi hB.size)).mono ?_; rintro e w1 ⟨rfl, hb1⟩; have hB := hB.trans (hb1.mono hB.size); have x1 := keepc hb1 x1; have x2 := keepc hb1 x2; have x3 := keepc hb1 x3; have x4 := keepc hb1 x4; have x5 := keepc hb1 x5; have x6 := keepc hb1 x6; have x7 := keepc hb1 x7; have x8 := keepc hb1 x8; have x9 := keepc hb1 x9; have x10 := keepc hb1 x10)
        | (go_at_call 61; refine (l3VotesOk_c _ _ _ lo hi _ _ (hv.below vote_kept hB hhi) (Nat.le_trans hhi hB.size)).mono ?_; rintro e w1 ⟨rfl, hb1⟩; have hB := hB.trans (hb1.mono hB.size); have x1 := keepc hb1 x1; have x2 := keepc hb1 x2; have x3 := keepc hb1 x3; have x4 := keepc hb1 x4; have x5 := keepc hb1 x5; have x6 := keepc hb1 x6; have x7 := keepc hb1 x7; have x8 := keepc hb1 x8; have x9 := keepc hb1 x9; have x10 := keepc hb1 x10))
      all_goals
        go_ret
        refine ⟨congrArg (fun b => Ending.returned (.bool b)) ?_, hB⟩
        have z1 := z1.out
        have z2 := z2.out
        have z3 := z3.out
        simp only [okMsg, z1, z2, z3]
        clear z1 z2 z3 hn' hp'
        simp [okN, *]
  · have g1 : (kd == 1) = false := by simpa using k1
    by_cases k2 : kd = 2
    · subst k2
      by_cases h0 : n + p = 0
      · obtain ⟨rfl, rfl⟩ : n = 0 ∧ p = 0 := by omega
        go_enter Try.func81, Try.ntmps81
        go_wp2_with (first
          | (go_at_call 34; refine (l1In_c _ _ _ _).mono ?_; rintro e w' ⟨rfl, rfl⟩)
          | (go_at_call 49; refine (l1Ok_c _ _ _ _ _ _).mono ?_; rintro e w1 ⟨rfl, hb1⟩; have hB := hB.trans (hb1.mono hB.size); have x1 := keepc hb1 x1; have x2 := keepc hb1 x2; have x3 := keepc hb1 x3; have x4 := keepc hb1 x4; have x5 := keepc hb1 x5; have x6 := keepc hb1 x6; have x7 := keepc hb1 x7; have x8 := keepc hb1 x8; have x9 := keepc hb1 x9; have x10 := keepc hb1 x10)
          | (go_at_call 48; refine (l1None_c _ _ _ _ _ _).mono ?_; rintro e w1 ⟨rfl, hb1⟩; have hB := hB.trans (hb1.mono hB.size); have x1 := keepc hb1 x1; have x2 := keepc hb1 x2; have x3 := keepc hb1 x3; have x4 := keepc hb1 x4; have x5 := keepc hb1 x5; have x6 := keepc hb1 x6; have x7 := keepc hb1 x7; have x8 := keepc hb1 x8; have x9 := keepc hb1 x9; have x10 := keepc hb1 x10)
          | (go_at_call 78; refine (l3ClaimsOk_c _ _ _ lo hi _ _ (hc.below (flat_kept _) hB hhi) (Nat.le_trans hhi hB.size)).mono ?_; rintro e w1 ⟨rfl, hb1⟩; have hB := hB.trans (hb1.mono hB.size); have x1 := keepc hb1 x1; have x2 := keepc hb1 x2; have x3 := keepc hb1 x3; have x4 := keepc hb1 x4; have x5 := keepc hb1 x5; have x6 := keepc hb1 x6; have x7 := keepc hb1 x7; have x8 := keepc hb1 x8; have x9 := keepc hb1 x9; have x10 := keepc hb1 x10)
          | (go_at_call 61; refine (l3VotesOk_c _ _ _ lo hi _ _ (hv.below vote_kept hB hhi) (Nat.le_trans hhi hB.size)).mono ?_; rintro e w1 ⟨rfl, hb1⟩; have hB := hB.trans (hb1.mono hB.size); have x1 := keepc hb1 x1; have x2 := keepc hb1 x2; have x3 := keepc hb1 x3; have x4 := keepc hb1 x4; have x5 := keepc hb1 x5; have x6 := keepc hb1 x6; have x7 := keepc hb1 x7; have x8 := keepc hb1 x8; have x9 := keepc hb1 x9; have x10 := keepc hb1 x10))
        all_goals
          go_ret
          refine ⟨congrArg (fun b => Ending.returned (.bool b)) ?_, hB⟩
          have z1 := z1.out
          have z2 := z2.out
          have z3 := z3.out
          simp only [okMsg, z1, z2, z3]
          clear z1 z2 z3 hn' hp'
          simp [okN, *]
      · have zw : (wrap64 ((n : Int) + (p : Int)) == 0) = false := wrap_sum (by omega) (by omega) h0
        have zx : ((n : Int) + (p : Int) == 0) = false := by simp; omega
        go_enter Try.func81, Try.ntmps81
        go_wp2_with (first
          | (go_at_call 34; refine (l1In_c _ _ _ _).mono ?_; rintro e w' ⟨rfl, rfl⟩)
          | (go_at_call 49; refine (l1Ok_c _ _ _ _ _ _).mono ?_; rintro e w1 ⟨rfl, hb1⟩; have hB := hB.trans (hb1.mono hB.size); have x1 := keepc hb1 x1; have x2 := keepc hb1 x2; have x3 := keepc hb1 x3; have x4 := keepc hb1 x4; have x5 := keepc hb1 x5; have x6 := keepc hb1 x6; have x7 := keepc hb1 x7; have x8 := keepc hb1 x8; have x9 := keepc hb1 x9; have x10 := keepc hb1 x10)
          | (go_at_call 48; refine (l1None_c _ _ _ _ _ _).mono ?_; rintro e w1 ⟨rfl, hb1⟩; have hB := hB.trans (hb1.mono hB.size); have x1 := keepc hb1 x1; have x2 := keepc hb1 x2; have x3 := keepc hb1 x3; have x4 := keepc hb1 x4; have x5 := keepc hb1 x5; have x6 := keepc hb1 x6; have x7 := keepc hb1 x7; have x8 := keepc hb1 x8; have x9 := keepc hb1 x9; have x10 := keepc hb1 x10)
          | (go_at_call 78; refine (l3ClaimsOk_c _ _ _ lo hi _ _ (hc.below (flat_kept _) hB hhi) (Nat.le_trans hhi hB.size)).mono ?_; rintro e w1 ⟨rfl, hb1⟩; have hB := hB.trans (hb1.mono hB.size); have x1 := keepc hb1 x1; have x2 := keepc hb1 x2; have x3 := keepc hb1 x3; have x4 := keepc hb1 x4; have x5 := keepc hb1 x5; have x6 := keepc hb1 x6; have x7 := keepc hb1 x7; have x8 := keepc hb1 x8; have x9 := keepc hb1 x9; have x10 := keepc hb1 x10)
          | (go_at_call 61; refine (l3VotesOk_c _ _ _ lo hi _ _ (hv.below vote_kept hB hhi) (Nat.le_trans hhi hB.size)).mono ?_; rintro e w1 ⟨rfl, hb1⟩; have hB := hB.trans (hb1.mono hB.size); have x1 := keepc hb1 x1; have x2 := keepc hb1 x2; have x3 := keepc hb1 x3; have x4 := keepc hb1 x4; have x5 := keepc hb1 x5; have x6 := keepc hb1 x6; have x7 := keepc hb1 x7; have x8 := keepc hb1 x8; have x9 := keepc hb1 x9; have x10 := keepc hb1 x10))
        all_goals
          go_ret
          refine ⟨congrArg (fun b => Ending.returned (.bool b)) ?_, hB⟩
          have z1 := z1.out
          have z2 := z2.out
          have z3 := z3.out
          simp only [okMsg, z1, z2, z3]
          clear z1 z2 z3 hn' hp'
          simp [okN, *]
    · have g2 : (kd == 2) = false := by simpa using k2
      by_cases k3 : kd = 3
      · subst k3
        by_cases h0 : n + p = 0
        · obtain ⟨rfl, rfl⟩ : n = 0 ∧ p = 0 := by omega
          go_enter Try.func81, Try.ntmps81
          go_wp2_with (first
            | (go_at_call 34; refine (l1In_c _ _ _ _).mono ?_; rintro e w' ⟨rfl, rfl⟩)
            | (go_at_call 49; refine (l1Ok_c _ _ _ _ _ _).mono ?_; rintro e w1 ⟨rfl, hb1⟩; have hB := hB.trans (hb1.mono hB.size); have x1 := keepc hb1 x1; have x2 := keepc hb1 x2; have x3 := keepc hb1 x3; have x4 := keepc hb1 x4; have x5 := keepc hb1 x5; have x6 := keepc hb1 x6; have x7 := keepc hb1 x7; have x8 := keepc hb1 x8; have x9 := keepc hb1 x9; have x10 := keepc hb1 x10)
            | (go_at_call 48; refine (l1None_c _ _ _ _ _ _).mono ?_; rintro e w1 ⟨rfl, hb1⟩; have hB := hB.trans (hb1.mono hB.size); have x1 := keepc hb1 x1; have x2 := keepc hb1 x2; have x3 := keepc hb1 x3; have x4 := keepc hb1 x4; have x5 := keepc hb1 x5; have x6 := keepc hb1 x6; have x7 := keepc hb1 x7; have x8 := keepc hb1 x8; have x9 := keepc hb1 x9; have x10 := keepc hb1 x10)
            | (go_at_call 78; refine (l3ClaimsOk_c _ _ _ lo hi _ _ (hc.below (flat_kept _) hB hhi) (Nat.le_trans hhi hB.size)).mono ?_; rintro e w1 ⟨rfl, hb1⟩; have hB := hB.trans (hb1.mono hB.size); have x1 := keepc hb1 x1; have x2 := keepc hb1 x2; have x3 := keepc hb1 x3; have x4 := keepc hb1 x4; have x5 := keepc hb1 x5; have x6 := keepc hb1 x6; have x7 := keepc hb1 x7; have x8 := keepc hb1 x8; have x9 := keepc hb1 x9; have x10 := keepc hb1 x10)
            | (go_at_call 61; refine (l3VotesOk_c _ _ _ lo hi _ _ (hv.below vote_kept hB hhi) (Nat.le_trans hhi hB.size)).mono ?_; rintro e w1 ⟨rfl, hb1⟩; have hB := hB.trans (hb1.mono hB.size); have x1 := keepc hb1 x1; have x2 := keepc hb1 x2; have x3 := keepc hb1 x3; have x4 := keepc hb1 x4; have x5 := keepc hb1 x5; have x6 := keepc hb1 x6; have x7 := keepc hb1 x7; have x8 := keepc hb1 x8; have x9 := keepc hb1 x9; have x10 := keepc hb1 x10))
          all_goals
            go_ret
            refine ⟨congrArg (fun b => Ending.returned (.bool b)) ?_, hB⟩
            have z1 := z1.out
            have z2 := z2.out
            have z3 := z3.out
            simp only [okMsg, z1, z2, z3]
            clear z1 z2 z3 hn' hp'
            simp [okN, *]
        · have zw : (wrap64 ((n : Int) + (p : Int)) == 0) = false := wrap_sum (by omega) (by omega) h0
          have zx : ((n : Int) + (p : Int) == 0) = false := by simp; omega
          go_enter Try.func81, Try.ntmps81
          go_wp2_with (first
            | (go_at_call 34; refine (l1In_c _ _ _ _).mono ?_; rintro e w' ⟨rfl, rfl⟩)
            | (go_at_call 49; refine (l1Ok_c _ _ _ _ _ _).mono ?_; rintro e w1 ⟨rfl, hb1⟩; have hB := hB.trans (hb1.mono hB.size); have x1 := keepc hb1 x1; have x2 := keepc hb1 x2; have x3 := keepc hb1 x3; have x4 := keepc hb1 x4; have x5 := keepc hb1 x5; have x6 := keepc hb1 x6; have x7 := keepc hb1 x7; have x8 := keepc hb1 x8; have x9 := keepc hb1 x9; have x10 := keepc hb1 x10)
            | (go_at_call 48; refine (l1None_c _ _ _ _ _ _).mono ?_; rintro e w1 ⟨rfl, hb1⟩; have hB := hB.trans (hb1.mono hB.size); have x1 := keepc hb1 x1; have x2 := keepc hb1 x2; have x3 := keepc hb1 x3; have x4 := keepc hb1 x4; have x5 := keepc hb1 x5; have x6 := keepc hb1 x6; have x7 := keepc hb1 x7; have x8 := keepc hb1 x8; have x9 := keepc hb1 x9; have x10 := keepc hb1 x10)
            | (go_at_call 78; refine (l3ClaimsOk_c _ _ _ lo hi _ _ (hc.below (flat_kept _) hB hhi) (Nat.le_trans hhi hB.size)).mono ?_; rintro e w1 ⟨rfl, hb1⟩; have hB := hB.trans (hb1.mono hB.size); have x1 := keepc hb1 x1; have x2 := keepc hb1 x2; have x3 := keepc hb1 x3; have x4 := keepc hb1 x4; have x5 := keepc hb1 x5; have x6 := keepc hb1 x6; have x7 := keepc hb1 x7; have x8 := keepc hb1 x8; have x9 := keepc hb1 x9; have x10 := keepc hb1 x10)
            | (go_at_call 61; refine (l3VotesOk_c _ _ _ lo hi _ _ (hv.below vote_kept hB hhi) (Nat.le_trans hhi hB.size)).mono ?_; rintro e w1 ⟨rfl, hb1⟩; have hB := hB.trans (hb1.mono hB.size); have x1 := keepc hb1 x1; have x2 := keepc hb1 x2; have x3 := keepc hb1 x3; have x4 := keepc hb1 x4; have x5 := keepc hb1 x5; have x6 := keepc hb1 x6; have x7 := keepc hb1 x7; have x8 := keepc hb1 x8; have x9 := keepc hb1 x9; have x10 := keepc hb1 x10))
          all_goals
            go_ret
            refine ⟨congrArg (fun b => Ending.returned (.bool b)) ?_, hB⟩
            have z1 := z1.out
            have z2 := z2.out
            have z3 := z3.out
            simp only [okMsg, z1, z2, z3]
            clear z1 z2 z3 hn' hp'
            simp [okN, *]
      · have g3 : (kd == 3) = false := by simpa using k3
        by_cases k4 : kd = 4
        · subst k4
          by_cases h0 : n + p = 0
          · obtain ⟨rfl, rfl⟩ : n = 0 ∧ p = 0 := by omega
            go_enter Try.func81, Try.ntmps81
            go_wp2_with (first
              | (go_at_call 34; refine (l1In_c _ _ _ _).mono ?_; rintro e w' ⟨rfl, rfl⟩)
              | (go_at_call 49; refine (l1Ok_c _ _ _ _ _ _).mono ?_; rintro e w1 ⟨rfl, hb1⟩; have hB := hB.trans (hb1.mono hB.size); have x1 := keepc hb1 x1; have x2 := keepc hb1 x2; have x3 := keepc hb1 x3; have x4 := keepc hb1 x4; have x5 := keepc hb1 x5; have x6 := keepc hb1 x6; have x7 := keepc hb1 x7; have x8 := keepc hb1 x8; have x9 := keepc hb1 x9; have x10 := keepc hb1 x10)
              | (go_at_call 48; refine (l1None_c _ _ _ _ _ _).mono ?_; rintro e w1 ⟨rfl, hb1⟩; have hB := hB.trans (hb1.mono hB.size); have x1 := keepc hb1 x1; have x2 := keepc hb1 x2; have x3 := keepc hb1 x3; have x4 := keepc hb1 x4; have x5 := keepc hb1 x5; have x6 := keepc hb1 x6; have x7 := keepc hb1 x7; have x8 := keepc hb1 x8; have x9 := keepc hb1 x9; have x10 := keepc hb1 x10)
              | (go_at_call 78; refine (l3ClaimsOk_c _ _ _ lo hi _ _ (hc.below (flat_kept _) hB hhi) (Nat.le_trans hhi hB.size)).mono ?_; rintro e w1 ⟨rfl, hb1⟩; have hB := hB.trans (hb1.mono hB.size); have x1 := keepc hb1 x1; have x2 := keepc hb1 x2; have x3 := keepc hb1 x3; have x4 := keepc hb1 x4; have x5 := keepc hb1 x5; have x6 := keepc hb1 x6; have x7 := keepc hb1 x7; have x8 := keepc hb1 x8; have x9 := keepc hb1 x9; have x10 := keepc hb1 x10)
              | (go_at_call 61; refine (l3VotesOk_c _ _ _ lo hi _ _ (hv.below vote_kept hB hhi) (Nat.le_trans hhi hB.size)).mono ?_; rintro e w1 ⟨rfl, hb1⟩; have hB := hB.trans (hb1.mono hB.size); have x1 := keepc hb1 x1; have x2 := keepc hb1 x2; have x3 := keepc hb1 x3; have x4 := keepc hb1 x4; have x5 := keepc hb1 x5; have x6 := keepc hb1 x6; have x7 := keepc hb1 x7; have x8 := keepc hb1 x8; have x9 := keepc hb1 x9; have x10 := keepc hb1 x10))
            all_goals
              go_ret
              refine ⟨congrArg (fun b => Ending.returned (.bool b)) ?_, hB⟩
              have z1 := z1.out
              have z2 := z2.out
              have z3 := z3.out
              simp only [okMsg, z1, z2, z3]
              clear z1 z2 z3 hn' hp'
              simp [okN, *]
          · have zw : (wrap64 ((n : Int) + (p : Int)) == 0) = false := wrap_sum (by omega) (by omega) h0
            have zx : ((n : Int) + (p : Int) == 0) = false := by simp; omega
            go_enter Try.func81, Try.ntmps81
            go_wp2_with (first
              | (go_at_call 34; refine (l1In_c _ _ _ _).mono ?_; rintro e w' ⟨rfl, rfl⟩)
              | (go_at_call 49; refine (l1Ok_c _ _ _ _ _ _).mono ?_; rintro e w1 ⟨rfl, hb1⟩; have hB := hB.trans (hb1.mono hB.size); have x1 := keepc hb1 x1; have x2 := keepc hb1 x2; have x3 := keepc hb1 x3; have x4 := keepc hb1 x4; have x5 := keepc hb1 x5; have x6 := keepc hb1 x6; have x7 := keepc hb1 x7; have x8 := keepc hb1 x8; have x9 := keepc hb1 x9; have x10 := keepc hb1 x10)
              | (go_at_call 48; refine (l1None_c _ _ _ _ _ _).mono ?_; rintro e w1 ⟨rfl, hb1⟩; have hB := hB.trans (hb1.mono hB.size); have x1 := keepc hb1 x1; have x2 := keepc hb1 x2; have x3 := keepc hb1 x3; have x4 := keepc hb1 x4; have x5 := keepc hb1 x5; have x6 := keepc hb1 x6; have x7 := keepc hb1 x7; have x8 := keepc hb1 x8; have x9 := keepc hb1 x9; have x10 := keepc hb1 x10)
              | (go_at_call 78; refine (l3ClaimsOk_c _ _ _ lo hi _ _ (hc.below (flat_kept _) hB hhi) (Nat.le_trans hhi hB.size)).mono ?_; rintro e w1 ⟨rfl, hb1⟩; have hB := hB.trans (hb1.mono hB.size); have x1 := keepc hb1 x1; have x2 := keepc hb1 x2; have x3 := keepc hb1 x3; have x4 := keepc hb1 x4; have x5 := keepc hb1 x5; have x6 := keepc hb1 x6; have x7 := keepc hb1 x7; have x8 := keepc hb1 x8; have x9 := keepc hb1 x9; have x10 := keepc hb1 x10)
              | (go_at_call 61; refine (l3VotesOk_c _ _ _ lo hi _ _ (hv.below vote_kept hB hhi) (Nat.le_trans hhi hB.size)).mono ?_; rintro e w1 ⟨rfl, hb1⟩; have hB := hB.trans (hb1.mono hB.size); have x1 := keepc hb1 x1; have x2 := keepc hb1 x2; have x3 := keepc hb1 x3; have x4 := keepc hb1 x4; have x5 := keepc hb1 x5; have x6 := keepc hb1 x6; have x7 := keepc hb1 x7; have x8 := keepc hb1 x8; have x9 := keepc hb1 x9; have x10 := keepc hb1 x10))
            all_goals
              go_ret
              refine ⟨congrArg (fun b => Ending.returned (.bool b)) ?_, hB⟩
              have z1 := z1.out
              have z2 := z2.out
              have z3 := z3.out
              simp only [okMsg, z1, z2, z3]
              clear z1 z2 z3 hn' hp'
              simp [okN, *]
        · have g4 : (kd == 4) = false := by simpa using k4
          by_cases k5 : kd = 5
          · subst k5
            by_cases hs : s = 0
            · subst hs
              by_cases hp : p = 0
              · subst hp
                go_enter Try.func81, Try.ntmps81
                go_wp2_with (first
                  | (go_at_call 34; refine (l1In_c _ _ _ _).mono ?_; rintro e w' ⟨rfl, rfl⟩)
                  | (go_at_call 49; refine (l1Ok_c _ _ _ _ _ _).mono ?_; rintro e w1 ⟨rfl, hb1⟩; have hB := hB.trans (hb1.mono hB.size); have x1 := keepc hb1 x1; have x2 := keepc hb1 x2; have x3 := keepc hb1 x3; have x4 := keepc hb1 x4; have x5 := keepc hb1 x5; have x6 := keepc hb1 x6; have x7 := keepc hb1 x7; have x8 := keepc hb1 x8; have x9 := keepc hb1 x9; have x10 := keepc hb1 x10)
                  | (go_at_call 48; refine (l1None_c _ _ _ _ _ _).mono ?_; rintro e w1 ⟨rfl, hb1⟩; have hB := hB.trans (hb1.mono hB.size); have x1 := keepc hb1 x1; have x2 := keepc hb1 x2; have x3 := keepc hb1 x3; have x4 := keepc hb1 x4; have x5 := keepc hb1 x5; have x6 := keepc hb1 x6; have x7 := keepc hb1 x7; have x8 := keepc hb1 x8; have x9 := keepc hb1 x9; have x10 := keepc hb1 x10)
                  | (go_at_call 78; refine (l3ClaimsOk_c _ _ _ lo hi _ _ (hc.below (flat_kept _) hB hhi) (Nat.le_trans hhi hB.size)).mono ?_; rintro e w1 ⟨rfl, hb1⟩; have hB := hB.trans (hb1.mono hB.size); have x1 := keepc hb1 x1; have x2 := keepc hb1 x2; have x3 := keepc hb1 x3; have x4 := keepc hb1 x4; have x5 := keepc hb1 x5; have x6 := keepc hb1 x6; have x7 := keepc hb1 x7; have x8 := keepc hb1 x8; have x9 := keepc hb1 x9; have x10 := keepc hb1 x10)
                  | (go_at_call 61; refine (l3VotesOk_c _ _ _ lo hi _ _ (hv.below vote_kept hB hhi) (Nat.le_trans hhi hB.size)).mono ?_; rintro e w1 ⟨rfl, hb1⟩; have hB := hB.trans (hb1.mono hB.size); have x1 := keepc hb1 x1; have x2 := keepc hb1 x2; have x3 := keepc hb1 x3; have x4 := keepc hb1 x4; have x5 := keepc hb1 x5; have x6 := keepc hb1 x6; have x7 := keepc hb1 x7; have x8 := keepc hb1 x8; have x9 := keepc hb1 x9; have x10 := keepc hb1 x10))
                all_goals
                  go_ret
                  refine ⟨congrArg (fun b => Ending.returned (.bool b)) ?_, hB⟩
                  have z1 := z1.out
                  have z2 := z2.out
                  have z3 := z3.out
                  simp only [okMsg, z1, z2, z3]
                  clear z1 z2 z3 hn' hp'
                  simp [okN, *]
              · have gp : ((p : Int) == 0) = false := by simpa using hp
                go_enter Try.func81, Try.ntmps81
                go_wp2_with (first
                  | (go_at_call 34; refine (l1In_c _ _ _ _).mono ?_; rintro e w' ⟨rfl, rfl⟩)
                  | (go_at_call 49; refine (l1Ok_c _ _ _ _ _ _).mono ?_; rintro e w1 ⟨rfl, hb1⟩; have hB := hB.trans (hb1.mono hB.size); have x1 := keepc hb1 x1; have x2 := keepc hb1 x2; have x3 := keepc hb1 x3; have x4 := keepc hb1 x4; have x5 := keepc hb1 x5; have x6 := keepc hb1 x6; have x7 := keepc hb1 x7; have x8 := keepc hb1 x8; have x9 := keepc hb1 x9; have x10 := keepc hb1 x10)
                  | (go_at_call 48; refine (l1None_c _ _ _ _ _ _).mono ?_; rintro e w1 ⟨rfl, hb1⟩; have hB := hB.trans (hb1.mono hB.size); have x1 := keepc hb1 x1; have x2 := keepc hb1 x2; have x3 := keepc hb1 x3; have x4 := keepc hb1 x4; have x5 := keepc hb1 x5; have x6 := keepc hb1 x6; have x7 := keepc hb1 x7; have x8 := keepc hb1 x8; have x9 := keepc hb1 x9; have x10 := keepc hb1 x10)
                  | (go_at_call 78; refine (l3ClaimsOk_c _ _ _ lo hi _ _ (hc.below (flat_kept _) hB hhi) (Nat.le_trans hhi hB.size)).mono ?_; rintro e w1 ⟨rfl, hb1⟩; have hB := hB.trans (hb1.mono hB.size); have x1 := keepc hb1 x1; have x2 := keepc hb1 x2; have x3 := keepc hb1 x3; have x4 := keepc hb1 x4; have x5 := keepc hb1 x5; have x6 := keepc hb1 x6; have x7 := keepc hb1 x7; have x8 := keepc hb1 x8; have x9 := keepc hb1 x9; have x10 := keepc hb1 x10)
                  | (go_at_call 61; refine (l3VotesOk_c _ _ _ lo hi _ _ (hv.below vote_kept hB hhi) (Nat.le_trans hhi hB.size)).mono ?_; rintro e w1 ⟨rfl, hb1⟩; have hB := hB.trans (hb1.mono hB.size); have x1 := keepc hb1 x1; have x2 := keepc hb1 x2; have x3 := keepc hb1 x3; have x4 := keepc hb1 x4; have x5 := keepc hb1 x5; have x6 := keepc hb1 x6; have x7 := keepc hb1 x7; have x8 := keepc hb1 x8; have x9 := keepc hb1 x9; have x10 := keepc hb1 x10))
                all_goals
                  go_ret
                  refine ⟨congrArg (fun b => Ending.returned (.bool b)) ?_, hB⟩
                  have z1 := z1.out
                  have z2 := z2.out
                  have z3 := z3.out
                  simp only [okMsg, z1, z2, z3]
                  clear z1 z2 z3 hn' hp'
                  simp [okN, *]
            · have gs : (s == 0) = false := by simpa using hs
              go_enter Try.func81, Try.ntmps81
              go_wp2_with (first
                | (go_at_call 34; refine (l1In_c _ _ _ _).mono ?_; rintro e w' ⟨rfl, rfl⟩)
                | (go_at_call 49; refine (l1Ok_c _ _ _ _ _ _).mono ?_; rintro e w1 ⟨rfl, hb1⟩; have hB := hB.trans (hb1.mono hB.size); have x1 := keepc hb1 x1; have x2 := keepc hb1 x2; have x3 := keepc hb1 x3; have x4 := keepc hb1 x4; have x5 := keepc hb1 x5; have x6 := keepc hb1 x6; have x7 := keepc hb1 x7; have x8 := keepc hb1 x8; have x9 := keepc hb1 x9; have x10 := keepc hb1 x10)
                | (go_at_call 48; refine (l1None_c _ _ _ _ _ _).mono ?_; rintro e w1 ⟨rfl, hb1⟩; have hB := hB.trans (hb1.mono hB.size); have x1 := keepc hb1 x1; have x2 := keepc hb1 x2; have x3 := keepc hb1 x3; have x4 := keepc hb1 x4; have x5 := keepc hb1 x5; have x6 := keepc hb1 x6; have x7 := keepc hb1 x7; have x8 := keepc hb1 x8; have x9 := keepc hb1 x9; have x10 := keepc hb1 x10)
                | (go_at_call 78; refine (l3ClaimsOk_c _ _ _ lo hi _ _ (hc.below (flat_kept _) hB hhi) (Nat.le_trans hhi hB.size)).mono ?_; rintro e w1 ⟨rfl, hb1⟩; have hB := hB.trans (hb1.mono hB.size); have x1 := keepc hb1 x1; have x2 := keepc hb1 x2; have x3 := keepc hb1 x3; have x4 := keepc hb1 x4; have x5 := keepc hb1 x5; have x6 := keepc hb1 x6; have x7 := keepc hb1 x7; have x8 := keepc hb1 x8; have x9 := keepc hb1 x9; have x10 := keepc hb1 x10)
                | (go_at_call 61; refine (l3VotesOk_c _ _ _ lo hi _ _ (hv.below vote_kept hB hhi) (Nat.le_trans hhi hB.size)).mono ?_; rintro e w1 ⟨rfl, hb1⟩; have hB := hB.trans (hb1.mono hB.size); have x1 := keepc hb1 x1; have x2 := keepc hb1 x2; have x3 := keepc hb1 x3; have x4 := keepc hb1 x4; have x5 := keepc hb1 x5; have x6 := keepc hb1 x6; have x7 := keepc hb1 x7; have x8 := keepc hb1 x8; have x9 := keepc hb1 x9; have x10 := keepc hb1 x10))
              all_goals
                go_ret
                refine ⟨congrArg (fun b => Ending.returned (.bool b)) ?_, hB⟩
                have z1 := z1.out
                have z2 := z2.out
                have z3 := z3.out
                simp only [okMsg, z1, z2, z3]
                clear z1 z2 z3 hn' hp'
                simp [okN, *]
          · have g5 : (kd == 5) = false := by simpa using k5
            by_cases k6 : kd = 6
            · subst k6
              by_cases hs : s = 0
              · subst hs
                by_cases hn : n = 0
                · subst hn
                  go_enter Try.func81, Try.ntmps81
                  go_wp2_with (first
                    | (go_at_call 34; refine (l1In_c _ _ _ _).mono ?_; rintro e w' ⟨rfl, rfl⟩)
                    | (go_at_call 49; refine (l1Ok_c _ _ _ _ _ _).mono ?_; rintro e w1 ⟨rfl, hb1⟩; have hB := hB.trans (hb1.mono hB.size); have x1 := keepc hb1 x1; have x2 := keepc hb1 x2; have x3 := keepc hb1 x3; have x4 := keepc hb1 x4; have x5 := keepc hb1 x5; have x6 := keepc hb1 x6; have x7 := keepc hb1 x7; have x8 := keepc hb1 x8; have x9 := keepc hb1 x9; have x10 := keepc hb1 x10)
                    | (go_at_call 48; refine (l1None_c _ _ _ _ _ _).mono ?_; rintro e w1 ⟨rfl, hb1⟩; have hB := hB.trans (hb1.mono hB.size); have x1 := keepc hb1 x1; have x2 := keepc hb1 x2; have x3 := keepc hb1 x3; have x4 := keepc hb1 x4; have x5 := keepc hb1 x5; have x6 := keepc hb1 x6; have x7 := keepc hb1 x7; have x8 := keepc hb1 x8; have x9 := keepc hb1 x9; have x10 := keepc hb1 x10)
                    | (go_at_call 78; refine (l3ClaimsOk_c _ _ _ lo hi _ _ (hc.below (flat_kept _) hB hhi) (Nat.le_trans hhi hB.size)).mono ?_; rintro e w1 ⟨rfl, hb1⟩; have hB := hB.trans (hb1.mono hB.size); have x1 := keepc hb1 x1; have x2 := keepc hb1 x2; have x3 := keepc hb1 x3; have x4 := keepc hb1 x4; have x5 := keepc hb1 x5; have x6 := keepc hb1 x6; have x7 := keepc hb1 x7; have x8 := keepc hb1 x8; have x9 := keepc hb1 x9; have x10 := keepc hb1 x10)
                    | (go_at_call 61; refine (l3VotesOk_c _ _ _ lo hi _ _ (hv.below vote_kept hB hhi) (Nat.le_trans hhi hB.size)).mono ?_; rintro e w1 ⟨rfl, hb1⟩; have hB := hB.trans (hb1.mono hB.size); have x1 := keepc hb1 x1; have x2 := keepc hb1 x2; have x3 := keepc hb1 x3; have x4 := keepc hb1 x4; have x5 := keepc hb1 x5; have x6 := keepc hb1 x6; have x7 := keepc hb1 x7; have x8 := keepc hb1 x8; have x9 := keepc hb1 x9; have x10 := keepc hb1 x10))
                  all_goals
                    go_ret
                    refine ⟨congrArg (fun b => Ending.returned (.bool b)) ?_, hB⟩
                    have z1 := z1.out
                    have z2 := z2.out
                    have z3 := z3.out
                    simp only [okMsg, z1, z2, z3]
                    clear z1 z2 z3 hn' hp'
                    simp [okN, *]
                · have gn : ((n : Int) == 0) = false := by simpa using hn
                  go_enter Try.func81, Try.ntmps81
                  go_wp2_with (first
                    | (go_at_call 34; refine (l1In_c _ _ _ _).mono ?_; rintro e w' ⟨rfl, rfl⟩)
                    | (go_at_call 49; refine (l1Ok_c _ _ _ _ _ _).mono ?_; rintro e w1 ⟨rfl, hb1⟩; have hB := hB.trans (hb1.mono hB.size); have x1 := keepc hb1 x1; have x2 := keepc hb1 x2; have x3 := keepc hb1 x3; have x4 := keepc hb1 x4; have x5 := keepc hb1 x5; have x6 := keepc hb1 x6; have x7 := keepc hb1 x7; have x8 := keepc hb1 x8; have x9 := keepc hb1 x9; have x10 := keepc hb1 x10)
                    | (go_at_call 48; refine (l1None_c _ _ _ _ _ _).mono ?_; rintro e w1 ⟨rfl, hb1⟩; have hB := hB.trans (hb1.mono hB.size); have x1 := keepc hb1 x1; have x2 := keepc hb1 x2; have x3 := keepc hb1 x3; have x4 := keepc hb1 x4; have x5 := keepc hb1 x5; have x6 := keepc hb1 x6; have x7 := keepc hb1 x7; have x8 := keepc hb1 x8; have x9 := keepc hb1 x9; have x10 := keepc hb1 x10)
                    | (go_at_call 78; refine (l3ClaimsOk_c _ _ _ lo hi _ _ (hc.below (flat_kept _) hB hhi) (Nat.le_trans hhi hB.size)).mono ?_; rintro e w1 ⟨rfl, hb1⟩; have hB := hB.trans (hb1.mono hB.size); have x1 := keepc hb1 x1; have x2 := keepc hb1 x2; have x3 := keepc hb1 x3; have x4 := keepc hb1 x4; have x5 := keepc hb1 x5; have x6 := keepc hb1 x6; have x7 := keepc hb1 x7; have x8 := keepc hb1 x8; have x9 := keepc hb1 x9; have x10 := keepc hb1 x10)
                    | (go_at_call 61; refine (l3VotesOk_c _ _ _ lo hi _ _ (hv.below vote_kept hB hhi) (Nat.le_trans hhi hB.size)).mono ?_; rintro e w1 ⟨rfl, hb1⟩; have hB := hB.trans (hb1.mono hB.size); have x1 := keepc hb1 x1; have x2 := keepc hb1 x2; have x3 := keepc hb1 x3; have x4 := keepc hb1 x4; have x5 := keepc hb1 x5; have x6 := keepc hb1 x6; have x7 := keepc hb1 x7; have x8 := keepc hb1 x8; have x9 := keepc hb1 x9; have x10 := keepc hb1 x10))
                  all_goals
                    go_ret
                    refine ⟨congrArg (fun b => Ending.returned (.bool b)) ?_, hB⟩
                    have z1 := z1.out
                    have z2 := z2.out
                    have z3 := z3.out
                    simp only [okMsg, z1, z2, z3]
                    clear z1 z2 z3 hn' hp'
                    simp [okN, *]
              · have gs : (s == 0) = false := by simpa using hs
                go_enter Try.func81, Try.ntmps81
                go_wp2_with (first
                  | (go_at_call 34; refine (l1In_c _ _ _ _).mono ?_; rintro e w' ⟨rfl, rfl⟩)
                  | (go_at_call 49; refine (l1Ok_c _ _ _ _ _ _).mono ?_; rintro e w1 ⟨rfl, hb1⟩; have hB := hB.trans (hb1.mono hB.size); have x1 := keepc hb1 x1; have x2 := keepc hb1 x2; have x3 := keepc hb1 x3; have x4 := keepc hb1 x4; have x5 := keepc hb1 x5; have x6 := keepc hb1 x6; have x7 := keepc hb1 x7; have x8 := keepc hb1 x8; have x9 := keepc hb1 x9; have x10 := keepc hb1 x10)
                  | (go_at_call 48; refine (l1None_c _ _ _ _ _ _).mono ?_; rintro e w1 ⟨rfl, hb1⟩; have hB := hB.trans (hb1.mono hB.size); have x1 := keepc hb1 x1; have x2 := keepc hb1 x2; have x3 := keepc hb1 x3; have x4 := keepc hb1 x4; have x5 := keepc hb1 x5; have x6 := keepc hb1 x6; have x7 := keepc hb1 x7; have x8 := keepc hb1 x8; have x9 := keepc hb1 x9; have x10 := keepc hb1 x10)
                  | (go_at_call 78; refine (l3ClaimsOk_c _ _ _ lo hi _ _ (hc.below (flat_kept _) hB hhi) (Nat.le_trans hhi hB.size)).mono ?_; rintro e w1 ⟨rfl, hb1⟩; have hB := hB.trans (hb1.mono hB.size); have x1 := keepc hb1 x1; have x2 := keepc hb1 x2; have x3 := keepc hb1 x3; have x4 := keepc hb1 x4; have x5 := keepc hb1 x5; have x6 := keepc hb1 x6; have x7 := keepc hb1 x7; have x8 := keepc hb1 x8; have x9 := keepc hb1 x9; have x10 := keepc hb1 x10)
                  | (go_at_call 61; refine (l3VotesOk_c _ _ _ lo hi _ _ (hv.below vote_kept hB hhi) (Nat.le_trans hhi hB.size)).mono ?_; rintro e w1 ⟨rfl, hb1⟩; have hB := hB.trans (hb1.mono hB.size); have x1 := keepc hb1 x1; have x2 := keepc hb1 x2; have x3 := keepc hb1 x3; have x4 := keepc hb1 x4; have x5 := keepc hb1 x5; have x6 := keepc hb1 x6; have x7 := keepc hb1 x7; have x8 := keepc hb1 x8; have x9 := keepc hb1 x9; have x10 := keepc hb1 x10))
                all_goals
                  go_ret
                  refine ⟨congrArg (fun b => Ending.returned (.bool b)) ?_, hB⟩
                  have z1 := z1.out
                  have z2 := z2.out
                  have z3 := z3.out
                  simp only [okMsg, z1, z2, z3]
                  clear z1 z2 z3 hn' hp'
                  simp [okN, *]
            · have g6 : (kd == 6) = false := by simpa using k6
              go_enter Try.func81, Try.ntmps81
              go_wp2_with (first
                | (go_at_call 34; refine (l1In_c _ _ _ _).mono ?_; rintro e w' ⟨rfl, rfl⟩)
                | (go_at_call 49; refine (l1Ok_c _ _ _ _ _ _).mono ?_; rintro e w1 ⟨rfl, hb1⟩; have hB := hB.trans (hb1.mono hB.size); have x1 := keepc hb1 x1; have x2 := keepc hb1 x2; have x3 := keepc hb1 x3; have x4 := keepc hb1 x4; have x5 := keepc hb1 x5; have x6 := keepc hb1 x6; have x7 := keepc hb1 x7; have x8 := keepc hb1 x8; have x9 := keepc hb1 x9; have x10 := keepc hb1 x10)
                | (go_at_call 48; refine (l1None_c _ _ _ _ _ _).mono ?_; rintro e w1 ⟨rfl, hb1⟩; have hB := hB.trans (hb1.mono hB.size); have x1 := keepc hb1 x1; have x2 := keepc hb1 x2; have x3 := keepc hb1 x3; have x4 := keepc hb1 x4; have x5 := keepc hb1 x5; have x6 := keepc hb1 x6; have x7 := keepc hb1 x7; have x8 := keepc hb1 x8; have x9 := keepc hb1 x9; have x10 := keepc hb1 x10)
                | (go_at_call 78; refine (l3ClaimsOk_c _ _ _ lo hi _ _ (hc.below (flat_kept _) hB hhi) (Nat.le_trans hhi hB.size)).mono ?_; rintro e w1 ⟨rfl, hb1⟩; have hB := hB.trans (hb1.mono hB.size); have x1 := keepc hb1 x1; have x2 := keepc hb1 x2; have x3 := keepc hb1 x3; have x4 := keepc hb1 x4; have x5 := keepc hb1 x5; have x6 := keepc hb1 x6; have x7 := keepc hb1 x7; have x8 := keepc hb1 x8; have x9 := keepc hb1 x9; have x10 := keepc hb1 x10)
                | (go_at_call 61; refine (l3VotesOk_c _ _ _ lo hi _ _ (hv.below vote_kept hB hhi) (Nat.le_trans hhi hB.size)).mono ?_; rintro e w1 ⟨rfl, hb1⟩; have hB := hB.trans (hb1.mono hB.size); have x1 := keepc hb1 x1; have x2 := keepc hb1 x2; have x3 := keepc hb1 x3; have x4 := keepc hb1 x4; have x5 := keepc hb1 x5; have x6 := keepc hb1 x6; have x7 := keepc hb1 x7; have x8 := keepc hb1 x8; have x9 := keepc hb1 x9; have x10 := keepc hb1 x10))
              all_goals
                go_ret
                refine ⟨congrArg (fun b => Ending.returned (.bool b)) ?_, hB⟩
                have z1 := z1.out
                have z2 := z2.out
                have z3 := z3.out
                simp only [okMsg, z1, z2, z3]
                clear z1 z2 z3 hn' hp'
                simp [okN, *]
end Go.Proofs.Ytopmbnnjhoinkaa
