/-
  What 'LAc' rests on (texts of this seat put together: NJ).
  Conditions: none.
-/
import Derived.Test.YtopmbnnjhoinkaaGreatZZ12
namespace Go.Proofs.YtopmbnnjhoinkaaGreat
open Go.RowKit Rg
set_option linter.unusedVariables false
set_option linter.unusedSimpArgs false
set_option maxHeartbeats 1000000
set_option maxRecDepth 100000 in
set_option maxHeartbeats 4000000 in
theorem MsgOk1_c (kd f v s a b c0 x y : Int) (cs : List ClaimT) (vs : List VoteT) (A B : Option Addr) (n c p d lo hi : Nat) (w : World) (hc : RdN 7 clR w lo hi A n c cs) (hv : RdN 2 voteR w lo hi B p d vs) (hhi : hi ≤ w.heap.size) :
    Calls Tryz.prog 23 #[.agg #[.int .i64 1, .int .i64 f, .int .i64 v, .int .i64 s, .int .i64 a, .int .i64 b, .int .i64 c0, .int .i64 x, .int .i64 y, .slice A n c, .slice B p d]] w fun e w' => e = .returned (.bool (okMsgI (1, f, v, s, (a, b, c0, x, y), cs, vs))) ∧ Below w.heap.size w w' := by
  have hB : Below w.heap.size w (w.alloc (.cells #[.int .i64 1, .int .i64 f, .int .i64 v, .int .i64 s, .int .i64 a, .int .i64 b, .int .i64 c0, .int .i64 x, .int .i64 y, .slice A n c, .slice B p d] 46)) := (Below.refl _ _).alloc (Nat.le_refl _) _
  have x0 : (w.alloc (.cells #[.int .i64 1, .int .i64 f, .int .i64 v, .int .i64 s, .int .i64 a, .int .i64 b, .int .i64 c0, .int .i64 x, .int .i64 y, .slice A n c, .slice B p d] 46)).cell? ⟨w.heap.size, 0, none⟩ = some (.int .i64 1) := by simp
  have x1 : (w.alloc (.cells #[.int .i64 1, .int .i64 f, .int .i64 v, .int .i64 s, .int .i64 a, .int .i64 b, .int .i64 c0, .int .i64 x, .int .i64 y, .slice A n c, .slice B p d] 46)).cell? ⟨w.heap.size, 1, none⟩ = some (.int .i64 f) := by simp
  have x2 : (w.alloc (.cells #[.int .i64 1, .int .i64 f, .int .i64 v, .int .i64 s, .int .i64 a, .int .i64 b, .int .i64 c0, .int .i64 x, .int .i64 y, .slice A n c, .slice B p d] 46)).cell? ⟨w.heap.size, 2, none⟩ = some (.int .i64 v) := by simp
  have x3 : (w.alloc (.cells #[.int .i64 1, .int .i64 f, .int .i64 v, .int .i64 s, .int .i64 a, .int .i64 b, .int .i64 c0, .int .i64 x, .int .i64 y, .slice A n c, .slice B p d] 46)).cell? ⟨w.heap.size, 3, none⟩ = some (.int .i64 s) := by simp
  have x4 : (w.alloc (.cells #[.int .i64 1, .int .i64 f, .int .i64 v, .int .i64 s, .int .i64 a, .int .i64 b, .int .i64 c0, .int .i64 x, .int .i64 y, .slice A n c, .slice B p d] 46)).cell? ⟨w.heap.size, 4, none⟩ = some (.int .i64 a) := by simp
  have x5 : (w.alloc (.cells #[.int .i64 1, .int .i64 f, .int .i64 v, .int .i64 s, .int .i64 a, .int .i64 b, .int .i64 c0, .int .i64 x, .int .i64 y, .slice A n c, .slice B p d] 46)).cell? ⟨w.heap.size, 5, none⟩ = some (.int .i64 b) := by simp
  have x6 : (w.alloc (.cells #[.int .i64 1, .int .i64 f, .int .i64 v, .int .i64 s, .int .i64 a, .int .i64 b, .int .i64 c0, .int .i64 x, .int .i64 y, .slice A n c, .slice B p d] 46)).cell? ⟨w.heap.size, 6, none⟩ = some (.int .i64 c0) := by simp
  have x7 : (w.alloc (.cells #[.int .i64 1, .int .i64 f, .int .i64 v, .int .i64 s, .int .i64 a, .int .i64 b, .int .i64 c0, .int .i64 x, .int .i64 y, .slice A n c, .slice B p d] 46)).cell? ⟨w.heap.size, 7, none⟩ = some (.int .i64 x) := by simp
  have x8 : (w.alloc (.cells #[.int .i64 1, .int .i64 f, .int .i64 v, .int .i64 s, .int .i64 a, .int .i64 b, .int .i64 c0, .int .i64 x, .int .i64 y, .slice A n c, .slice B p d] 46)).cell? ⟨w.heap.size, 8, none⟩ = some (.int .i64 y) := by simp
  have x9 : (w.alloc (.cells #[.int .i64 1, .int .i64 f, .int .i64 v, .int .i64 s, .int .i64 a, .int .i64 b, .int .i64 c0, .int .i64 x, .int .i64 y, .slice A n c, .slice B p d] 46)).cell? ⟨w.heap.size, 9, none⟩ = some (.slice A n c) := by simp
  have x10 : (w.alloc (.cells #[.int .i64 1, .int .i64 f, .int .i64 v, .int .i64 s, .int .i64 a, .int .i64 b, .int .i64 c0, .int .i64 x, .int .i64 y, .slice A n c, .slice B p d] 46)).cell? ⟨w.heap.size, 10, none⟩ = some (.slice B p d) := by simp
  have hl : w.heap.size < (w.alloc (.cells #[.int .i64 1, .int .i64 f, .int .i64 v, .int .i64 s, .int .i64 a, .int .i64 b, .int .i64 c0, .int .i64 x, .int .i64 y, .slice A n c, .slice B p d] 46)).heap.size := by simp
  have e1 : inB 1 1 6 = true := by decide
  have hBM : Hid (bareM (1, f, v, s, (a, b, c0, x, y), cs, vs) = (1, 0, 0, 0, (a, b, c0, x, y), [], [])) := hide rfl
  have hbare := hide (fun W (h : Below w.heap.size w W) => bare1_c kd f v s a b c0 x y cs vs A B n c p d lo hi W (hc.below (flat_kept _) h hhi) (hv.below vote_kept h hhi) (Nat.le_trans hhi h.size))
  have hsame := hide (fun W (h : Below w.heap.size w W) => MsgSame_c (1, f, v, s, (a, b, c0, x, y), cs, vs) (1, 0, 0, 0, (a, b, c0, x, y), [], []) A B none none n c p d 0 0 0 0 lo hi lo hi W (hc.below (flat_kept _) h hhi) (hv.below vote_kept h hhi) (RdN.nil_ _ _ _ _ _ _ _ (by simp [maxLen])) (RdN.nil_ _ _ _ _ _ _ _ (by simp [maxLen])) (Nat.le_trans hhi h.size) (Nat.le_trans hhi h.size))
  have hclk := hide (fun W (h : Below w.heap.size w W) => claimsOk_c A n c lo hi cs W (hc.below (flat_kept _) h hhi) (Nat.le_trans hhi h.size))
  have hvok := hide (fun W (h : Below w.heap.size w W) => votesOk_c B p d lo hi vs W (hv.below vote_kept h hhi) (Nat.le_trans hhi h.size))
  cases eB : decide (((1, f, v, s, (a, b, c0, x, y), cs, vs) : MsgT) = (1, 0, 0, 0, (a, b, c0, x, y), [], []))
  · have eB' := hide eB
    have eB2 : Hid (decide (((1, f, v, s, (a, b, c0, x, y), cs, vs) : MsgT) = bareM (1, f, v, s, (a, b, c0, x, y), cs, vs)) = false) := hide (by rw [decide_eq_false_iff_not, hBM.out]; exact of_decide_eq_false eB)
    go_enter Tryz.func23, Tryz.ntmps23
    go_wp2
    generalize w.alloc (.cells #[.int .i64 1, .int .i64 f, .int .i64 v, .int .i64 s, .int .i64 a, .int .i64 b, .int .i64 c0, .int .i64 x, .int .i64 y, .slice A n c, .slice B p d] 46) = w1 at *
    have hB := hB.drew
    refine wp_region_T (Since _) [] [] [8] [0, 1, 2, 3, 4, 5, 6, 7, 8, 9, 10, 11, 12, 13, 14, 15, 16, 17, 18, 19, 20, 21, 22] (by kernel_rfl) (by kernel_rfl) (by kernel_rfl) (Since.drew _) ?_; simp only [pickL, List.getElem?_cons_succ, List.getElem?_cons_zero]
    go_wp2_with (first
      | ((refine no_implicit_lambda% (g4_ ?_)); intro hS) | ((refine no_implicit_lambda% (g26_ ?_)); intro K hK) | (refine no_implicit_lambda% (g1_ ?_)) | ((refine no_implicit_lambda% (g6_ ?_)); intro K hK) | (refine no_implicit_lambda% (g3_ ?_))
      | (go_at_call 31; refine (in_c _ _ _ _).mono ?_; rintro e w' ⟨rfl, rfl⟩; rw [e1])
      | (go_at_call 43; refine (hbare.out _ hB).mono ?_; rintro e w2 ⟨he, hb2⟩; obtain rfl := he.out; have hB := hB.trans (hb2.mono hB.size); have x0 := keepc hb2 x0; have x1 := keepc hb2 x1; have x2 := keepc hb2 x2; have x3 := keepc hb2 x3; have x4 := keepc hb2 x4; have x5 := keepc hb2 x5; have x6 := keepc hb2 x6; have x7 := keepc hb2 x7; have x8 := keepc hb2 x8; have x9 := keepc hb2 x9; have x10 := keepc hb2 x10; have hb2 := hb2)
      | (go_at_call 25; refine (hsame.out _ hB).mono ?_; rintro e w3 ⟨rfl, hb3⟩; rw [eB]; have hB := hB.trans (hb3.mono hB.size); have x0 := keepc hb3 x0; have x1 := keepc hb3 x1; have x2 := keepc hb3 x2; have x3 := keepc hb3 x3; have x4 := keepc hb3 x4; have x5 := keepc hb3 x5; have x6 := keepc hb3 x6; have x7 := keepc hb3 x7; have x8 := keepc hb3 x8; have x9 := keepc hb3 x9; have x10 := keepc hb3 x10; have hb3 := hb3)
      | (go_at_call 14; refine (isKeeper_c _ _).mono ?_; rintro e w' ⟨rfl, rfl⟩; rw [eK])
      | (go_at_call 37; refine (isView_c _ _).mono ?_; rintro e w' ⟨rfl, rfl⟩; rw [eV])
      | (go_at_call 44; refine (ReqOk_c _ _ _ _ _ _).mono ?_; rintro e w4 ⟨rfl, hb4⟩; have hB := hB.trans (hb4.mono hB.size))
      | (go_at_call 45; refine (isSeq_c _ _).mono ?_; rintro e w' ⟨rfl, rfl⟩)
      | (go_at_call 46; refine (okOrNull_c _ _ _ _ _ _).mono ?_; rintro e w4 ⟨rfl, hb4⟩; have hB := hB.trans (hb4.mono hB.size))
      | (go_at_call 38; refine (hclk.out _ hB).mono ?_; rintro e w4 ⟨rfl, hb4⟩; have hB := hB.trans (hb4.mono hB.size))
      | (go_at_call 47; refine (hvok.out _ hB).mono ?_; rintro e w4 ⟨rfl, hb4⟩; have hB := hB.trans (hb4.mono hB.size))
      | fail)
    all_goals
      go_ret
      refine ⟨congrArg (fun b => Ending.returned (.bool b)) ?_, hB⟩
      have g0 := eB2.out
      clear eB' eB eB2
      simp only [okMsgI, g0]
      clear g0
      simp [e1, *]
  · have eB' := hide eB
    have eB2 : Hid (decide (((1, f, v, s, (a, b, c0, x, y), cs, vs) : MsgT) = bareM (1, f, v, s, (a, b, c0, x, y), cs, vs)) = true) := hide (by rw [decide_eq_true_eq, hBM.out]; exact of_decide_eq_true eB)
    cases eK : inB f 0 3
    · have eK' := hide eK
      go_enter Tryz.func23, Tryz.ntmps23
      go_wp2
      generalize w.alloc (.cells #[.int .i64 1, .int .i64 f, .int .i64 v, .int .i64 s, .int .i64 a, .int .i64 b, .int .i64 c0, .int .i64 x, .int .i64 y, .slice A n c, .slice B p d] 46) = w1 at *
      have hB := hB.drew
      refine wp_region_T (Since _) [] [] [8] [0, 1, 2, 3, 4, 5, 6, 7, 8, 9, 10, 11, 12, 13, 14, 15, 16, 17, 18, 19, 20, 21, 22] (by kernel_rfl) (by kernel_rfl) (by kernel_rfl) (Since.drew _) ?_; simp only [pickL, List.getElem?_cons_succ, List.getElem?_cons_zero]
      go_wp2_with (first
        | ((refine no_implicit_lambda% (g4_ ?_)); intro hS) | ((refine no_implicit_lambda% (g26_ ?_)); intro K hK) | (refine no_implicit_lambda% (g1_ ?_)) | ((refine no_implicit_lambda% (g6_ ?_)); intro K hK) | (refine no_implicit_lambda% (g3_ ?_))
        | (go_at_call 31; refine (in_c _ _ _ _).mono ?_; rintro e w' ⟨rfl, rfl⟩; rw [e1])
        | (go_at_call 43; refine (hbare.out _ hB).mono ?_; rintro e w2 ⟨he, hb2⟩; obtain rfl := he.out; have hB := hB.trans (hb2.mono hB.size); have x0 := keepc hb2 x0; have x1 := keepc hb2 x1; have x2 := keepc hb2 x2; have x3 := keepc hb2 x3; have x4 := keepc hb2 x4; have x5 := keepc hb2 x5; have x6 := keepc hb2 x6; have x7 := keepc hb2 x7; have x8 := keepc hb2 x8; have x9 := keepc hb2 x9; have x10 := keepc hb2 x10; have hb2 := hb2)
        | (go_at_call 25; refine (hsame.out _ hB).mono ?_; rintro e w3 ⟨rfl, hb3⟩; rw [eB]; have hB := hB.trans (hb3.mono hB.size); have x0 := keepc hb3 x0; have x1 := keepc hb3 x1; have x2 := keepc hb3 x2; have x3 := keepc hb3 x3; have x4 := keepc hb3 x4; have x5 := keepc hb3 x5; have x6 := keepc hb3 x6; have x7 := keepc hb3 x7; have x8 := keepc hb3 x8; have x9 := keepc hb3 x9; have x10 := keepc hb3 x10; have hb3 := hb3)
        | (go_at_call 14; refine (isKeeper_c _ _).mono ?_; rintro e w' ⟨rfl, rfl⟩; rw [eK])
        | (go_at_call 37; refine (isView_c _ _).mono ?_; rintro e w' ⟨rfl, rfl⟩; rw [eV])
        | (go_at_call 44; refine (ReqOk_c _ _ _ _ _ _).mono ?_; rintro e w4 ⟨rfl, hb4⟩; have hB := hB.trans (hb4.mono hB.size))
        | (go_at_call 45; refine (isSeq_c _ _).mono ?_; rintro e w' ⟨rfl, rfl⟩)
        | (go_at_call 46; refine (okOrNull_c _ _ _ _ _ _).mono ?_; rintro e w4 ⟨rfl, hb4⟩; have hB := hB.trans (hb4.mono hB.size))
        | (go_at_call 38; refine (hclk.out _ hB).mono ?_; rintro e w4 ⟨rfl, hb4⟩; have hB := hB.trans (hb4.mono hB.size))
        | (go_at_call 47; refine (hvok.out _ hB).mono ?_; rintro e w4 ⟨rfl, hb4⟩; have hB := hB.trans (hb4.mono hB.size))
        | fail)
      all_goals
        go_ret
        refine ⟨congrArg (fun b => Ending.returned (.bool b)) ?_, hB⟩
        have g0 := eB2.out
        have eK' := eK'.out
        clear eB' eB eB2
        simp only [okMsgI, g0]
        clear g0
        simp [e1, *]
    · have eK' := hide eK
      cases eV : inB v 0 6
      · have eV' := hide eV
        go_enter Tryz.func23, Tryz.ntmps23
        go_wp2
        generalize w.alloc (.cells #[.int .i64 1, .int .i64 f, .int .i64 v, .int .i64 s, .int .i64 a, .int .i64 b, .int .i64 c0, .int .i64 x, .int .i64 y, .slice A n c, .slice B p d] 46) = w1 at *
        have hB := hB.drew
        refine wp_region_T (Since _) [] [] [8] [0, 1, 2, 3, 4, 5, 6, 7, 8, 9, 10, 11, 12, 13, 14, 15, 16, 17, 18, 19, 20, 21, 22] (by kernel_rfl) (by kernel_rfl) (by kernel_rfl) (Since.drew _) ?_; simp only [pickL, List.getElem?_cons_succ, List.getElem?_cons_zero]
        go_wp2_with (first
          | ((refine no_implicit_lambda% (g4_ ?_)); intro hS) | ((refine no_implicit_lambda% (g26_ ?_)); intro K hK) | (refine no_implicit_lambda% (g1_ ?_)) | ((refine no_implicit_lambda% (g6_ ?_)); intro K hK) | (refine no_implicit_lambda% (g3_ ?_))
          | (go_at_call 31; refine (in_c _ _ _ _).mono ?_; rintro e w' ⟨rfl, rfl⟩; rw [e1])
          | (go_at_call 43; refine (hbare.out _ hB).mono ?_; rintro e w2 ⟨he, hb2⟩; obtain rfl := he.out; have hB := hB.trans (hb2.mono hB.size); have x0 := keepc hb2 x0; have x1 := keepc hb2 x1; have x2 := keepc hb2 x2; have x3 := keepc hb2 x3; have x4 := keepc hb2 x4; have x5 := keepc hb2 x5; have x6 := keepc hb2 x6; have x7 := keepc hb2 x7; have x8 := keepc hb2 x8; have x9 := keepc hb2 x9; have x10 := keepc hb2 x10; have hb2 := hb2)
          | (go_at_call 25; refine (hsame.out _ hB).mono ?_; rintro e w3 ⟨rfl, hb3⟩; rw [eB]; have hB := hB.trans (hb3.mono hB.size); have x0 := keepc hb3 x0; have x1 := keepc hb3 x1; have x2 := keepc hb3 x2; have x3 := keepc hb3 x3; have x4 := keepc hb3 x4; have x5 := keepc hb3 x5; have x6 := keepc hb3 x6; have x7 := keepc hb3 x7; have x8 := keepc hb3 x8; have x9 := keepc hb3 x9; have x10 := keepc hb3 x10; have hb3 := hb3)
          | (go_at_call 14; refine (isKeeper_c _ _).mono ?_; rintro e w' ⟨rfl, rfl⟩; rw [eK])
          | (go_at_call 37; refine (isView_c _ _).mono ?_; rintro e w' ⟨rfl, rfl⟩; rw [eV])
          | (go_at_call 44; refine (ReqOk_c _ _ _ _ _ _).mono ?_; rintro e w4 ⟨rfl, hb4⟩; have hB := hB.trans (hb4.mono hB.size))
          | (go_at_call 45; refine (isSeq_c _ _).mono ?_; rintro e w' ⟨rfl, rfl⟩)
          | (go_at_call 46; refine (okOrNull_c _ _ _ _ _ _).mono ?_; rintro e w4 ⟨rfl, hb4⟩; have hB := hB.trans (hb4.mono hB.size))
          | (go_at_call 38; refine (hclk.out _ hB).mono ?_; rintro e w4 ⟨rfl, hb4⟩; have hB := hB.trans (hb4.mono hB.size))
          | (go_at_call 47; refine (hvok.out _ hB).mono ?_; rintro e w4 ⟨rfl, hb4⟩; have hB := hB.trans (hb4.mono hB.size))
          | fail)
        all_goals
          go_ret
          refine ⟨congrArg (fun b => Ending.returned (.bool b)) ?_, hB⟩
          have g0 := eB2.out
          have eK' := eK'.out
          have eV' := eV'.out
          clear eB' eB eB2
          simp only [okMsgI, g0]
          clear g0
          simp [e1, *]
      · have eV' := hide eV
        go_enter Tryz.func23, Tryz.ntmps23
        go_wp2
        generalize w.alloc (.cells #[.int .i64 1, .int .i64 f, .int .i64 v, .int .i64 s, .int .i64 a, .int .i64 b, .int .i64 c0, .int .i64 x, .int .i64 y, .slice A n c, .slice B p d] 46) = w1 at *
        have hB := hB.drew
        refine wp_region_T (Since _) [] [] [8] [0, 1, 2, 3, 4, 5, 6, 7, 8, 9, 10, 11, 12, 13, 14, 15, 16, 17, 18, 19, 20, 21, 22] (by kernel_rfl) (by kernel_rfl) (by kernel_rfl) (Since.drew _) ?_; simp only [pickL, List.getElem?_cons_succ, List.getElem?_cons_zero]
        go_wp2_with (first
          | ((refine no_implicit_lambda% (g4_ ?_)); intro hS) | ((refine no_implicit_lambda% (g26_ ?_)); intro K hK) | (refine no_implicit_lambda% (g1_ ?_)) | ((refine no_implicit_lambda% (g6_ ?_)); intro K hK) | (refine no_implicit_lambda% (g3_ ?_))
          | (go_at_call 31; refine (in_c _ _ _ _).mono ?_; rintro e w' ⟨rfl, rfl⟩; rw [e1])
          | (go_at_call 43; refine (hbare.out _ hB).mono ?_; rintro e w2 ⟨he, hb2⟩; obtain rfl := he.out; have hB := hB.trans (hb2.mono hB.size); have x0 := keepc hb2 x0; have x1 := keepc hb2 x1; have x2 := keepc hb2 x2; have x3 := keepc hb2 x3; have x4 := keepc hb2 x4; have x5 := keepc hb2 x5; have x6 := keepc hb2 x6; have x7 := keepc hb2 x7; have x8 := keepc hb2 x8; have x9 := keepc hb2 x9; have x10 := keepc hb2 x10; have hb2 := hb2)
          | (go_at_call 25; refine (hsame.out _ hB).mono ?_; rintro e w3 ⟨rfl, hb3⟩; rw [eB]; have hB := hB.trans (hb3.mono hB.size); have x0 := keepc hb3 x0; have x1 := keepc hb3 x1; have x2 := keepc hb3 x2; have x3 := keepc hb3 x3; have x4 := keepc hb3 x4; have x5 := keepc hb3 x5; have x6 := keepc hb3 x6; have x7 := keepc hb3 x7; have x8 := keepc hb3 x8; have x9 := keepc hb3 x9; have x10 := keepc hb3 x10; have hb3 := hb3)
          | (go_at_call 14; refine (isKeeper_c _ _).mono ?_; rintro e w' ⟨rfl, rfl⟩; rw [eK])
          | (go_at_call 37; refine (isView_c _ _).mono ?_; rintro e w' ⟨rfl, rfl⟩; rw [eV])
          | (go_at_call 44; refine (ReqOk_c _ _ _ _ _ _).mono ?_; rintro e w4 ⟨rfl, hb4⟩; have hB := hB.trans (hb4.mono hB.size))
          | (go_at_call 45; refine (isSeq_c _ _).mono ?_; rintro e w' ⟨rfl, rfl⟩)
          | (go_at_call 46; refine (okOrNull_c _ _ _ _ _ _).mono ?_; rintro e w4 ⟨rfl, hb4⟩; have hB := hB.trans (hb4.mono hB.size))
          | (go_at_call 38; refine (hclk.out _ hB).mono ?_; rintro e w4 ⟨rfl, hb4⟩; have hB := hB.trans (hb4.mono hB.size))
          | (go_at_call 47; refine (hvok.out _ hB).mono ?_; rintro e w4 ⟨rfl, hb4⟩; have hB := hB.trans (hb4.mono hB.size))
          | fail)
        all_goals
          go_ret
          refine ⟨congrArg (fun b => Ending.returned (.bool b)) ?_, hB⟩
          have g0 := eB2.out
          have eK' := eK'.out
          have eV' := eV'.out
          clear eB' eB eB2
          simp only [okMsgI, g0]
          clear g0
          simp [e1, *]
set_option maxRecDepth 100000 in
set_option maxHeartbeats 4000000 in
theorem MsgOk2_c (kd f v s a b c0 x y : Int) (cs : List ClaimT) (vs : List VoteT) (A B : Option Addr) (n c p d lo hi : Nat) (w : World) (hc : RdN 7 clR w lo hi A n c cs) (hv : RdN 2 voteR w lo hi B p d vs) (hhi : hi ≤ w.heap.size) :
    Calls Tryz.prog 23 #[.agg #[.int .i64 2, .int .i64 f, .int .i64 v, .int .i64 s, .int .i64 a, .int .i64 b, .int .i64 c0, .int .i64 x, .int .i64 y, .slice A n c, .slice B p d]] w fun e w' => e = .returned (.bool (okMsgI (2, f, v, s, (a, b, c0, x, y), cs, vs))) ∧ Below w.heap.size w w' := by
  have hB : Below w.heap.size w (w.alloc (.cells #[.int .i64 2, .int .i64 f, .int .i64 v, .int .i64 s, .int .i64 a, .int .i64 b, .int .i64 c0, .int .i64 x, .int .i64 y, .slice A n c, .slice B p d] 46)) := (Below.refl _ _).alloc (Nat.le_refl _) _
  have x0 : (w.alloc (.cells #[.int .i64 2, .int .i64 f, .int .i64 v, .int .i64 s, .int .i64 a, .int .i64 b, .int .i64 c0, .int .i64 x, .int .i64 y, .slice A n c, .slice B p d] 46)).cell? ⟨w.heap.size, 0, none⟩ = some (.int .i64 2) := by simp
  have x1 : (w.alloc (.cells #[.int .i64 2, .int .i64 f, .int .i64 v, .int .i64 s, .int .i64 a, .int .i64 b, .int .i64 c0, .int .i64 x, .int .i64 y, .slice A n c, .slice B p d] 46)).cell? ⟨w.heap.size, 1, none⟩ = some (.int .i64 f) := by simp
  have x2 : (w.alloc (.cells #[.int .i64 2, .int .i64 f, .int .i64 v, .int .i64 s, .int .i64 a, .int .i64 b, .int .i64 c0, .int .i64 x, .int .i64 y, .slice A n c, .slice B p d] 46)).cell? ⟨w.heap.size, 2, none⟩ = some (.int .i64 v) := by simp
  have x3 : (w.alloc (.cells #[.int .i64 2, .int .i64 f, .int .i64 v, .int .i64 s, .int .i64 a, .int .i64 b, .int .i64 c0, .int .i64 x, .int .i64 y, .slice A n c, .slice B p d] 46)).cell? ⟨w.heap.size, 3, none⟩ = some (.int .i64 s) := by simp
  have x4 : (w.alloc (.cells #[.int .i64 2, .int .i64 f, .int .i64 v, .int .i64 s, .int .i64 a, .int .i64 b, .int .i64 c0, .int .i64 x, .int .i64 y, .slice A n c, .slice B p d] 46)).cell? ⟨w.heap.size, 4, none⟩ = some (.int .i64 a) := by simp
  have x5 : (w.alloc (.cells #[.int .i64 2, .int .i64 f, .int .i64 v, .int .i64 s, .int .i64 a, .int .i64 b, .int .i64 c0, .int .i64 x, .int .i64 y, .slice A n c, .slice B p d] 46)).cell? ⟨w.heap.size, 5, none⟩ = some (.int .i64 b) := by simp
  have x6 : (w.alloc (.cells #[.int .i64 2, .int .i64 f, .int .i64 v, .int .i64 s, .int .i64 a, .int .i64 b, .int .i64 c0, .int .i64 x, .int .i64 y, .slice A n c, .slice B p d] 46)).cell? ⟨w.heap.size, 6, none⟩ = some (.int .i64 c0) := by simp
  have x7 : (w.alloc (.cells #[.int .i64 2, .int .i64 f, .int .i64 v, .int .i64 s, .int .i64 a, .int .i64 b, .int .i64 c0, .int .i64 x, .int .i64 y, .slice A n c, .slice B p d] 46)).cell? ⟨w.heap.size, 7, none⟩ = some (.int .i64 x) := by simp
  have x8 : (w.alloc (.cells #[.int .i64 2, .int .i64 f, .int .i64 v, .int .i64 s, .int .i64 a, .int .i64 b, .int .i64 c0, .int .i64 x, .int .i64 y, .slice A n c, .slice B p d] 46)).cell? ⟨w.heap.size, 8, none⟩ = some (.int .i64 y) := by simp
  have x9 : (w.alloc (.cells #[.int .i64 2, .int .i64 f, .int .i64 v, .int .i64 s, .int .i64 a, .int .i64 b, .int .i64 c0, .int .i64 x, .int .i64 y, .slice A n c, .slice B p d] 46)).cell? ⟨w.heap.size, 9, none⟩ = some (.slice A n c) := by simp
  have x10 : (w.alloc (.cells #[.int .i64 2, .int .i64 f, .int .i64 v, .int .i64 s, .int .i64 a, .int .i64 b, .int .i64 c0, .int .i64 x, .int .i64 y, .slice A n c, .slice B p d] 46)).cell? ⟨w.heap.size, 10, none⟩ = some (.slice B p d) := by simp
  have hl : w.heap.size < (w.alloc (.cells #[.int .i64 2, .int .i64 f, .int .i64 v, .int .i64 s, .int .i64 a, .int .i64 b, .int .i64 c0, .int .i64 x, .int .i64 y, .slice A n c, .slice B p d] 46)).heap.size := by simp
  have e1 : inB 2 1 6 = true := by decide
  have hBM : Hid (bareM (2, f, v, s, (a, b, c0, x, y), cs, vs) = (2, f, v, s, (a, b, c0, x, y), [], [])) := hide rfl
  have hbare := hide (fun W (h : Below w.heap.size w W) => bare2_c kd f v s a b c0 x y cs vs A B n c p d lo hi W (hc.below (flat_kept _) h hhi) (hv.below vote_kept h hhi) (Nat.le_trans hhi h.size))
  have hsame := hide (fun W (h : Below w.heap.size w W) => MsgSame_c (2, f, v, s, (a, b, c0, x, y), cs, vs) (2, f, v, s, (a, b, c0, x, y), [], []) A B none none n c p d 0 0 0 0 lo hi lo hi W (hc.below (flat_kept _) h hhi) (hv.below vote_kept h hhi) (RdN.nil_ _ _ _ _ _ _ _ (by simp [maxLen])) (RdN.nil_ _ _ _ _ _ _ _ (by simp [maxLen])) (Nat.le_trans hhi h.size) (Nat.le_trans hhi h.size))
  have hclk := hide (fun W (h : Below w.heap.size w W) => claimsOk_c A n c lo hi cs W (hc.below (flat_kept _) h hhi) (Nat.le_trans hhi h.size))
  have hvok := hide (fun W (h : Below w.heap.size w W) => votesOk_c B p d lo hi vs W (hv.below vote_kept h hhi) (Nat.le_trans hhi h.size))
  cases eB : decide (((2, f, v, s, (a, b, c0, x, y), cs, vs) : MsgT) = (2, f, v, s, (a, b, c0, x, y), [], []))
  · have eB' := hide eB
    have eB2 : Hid (decide (((2, f, v, s, (a, b, c0, x, y), cs, vs) : MsgT) = bareM (2, f, v, s, (a, b, c0, x, y), cs, vs)) = false) := hide (by rw [decide_eq_false_iff_not, hBM.out]; exact of_decide_eq_false eB)
    go_enter Tryz.func23, Tryz.ntmps23
    go_wp2
    generalize w.alloc (.cells #[.int .i64 2, .int .i64 f, .int .i64 v, .int .i64 s, .int .i64 a, .int .i64 b, .int .i64 c0, .int .i64 x, .int .i64 y, .slice A n c, .slice B p d] 46) = w1 at *
    have hB := hB.drew
    refine wp_region_T (Since _) [] [] [8] [0, 1, 2, 3, 4, 5, 6, 7, 8, 9, 10, 11, 12, 13, 14, 15, 16, 17, 18, 19, 20, 21, 22] (by kernel_rfl) (by kernel_rfl) (by kernel_rfl) (Since.drew _) ?_; simp only [pickL, List.getElem?_cons_succ, List.getElem?_cons_zero]
    go_wp2_with (first
      | ((refine no_implicit_lambda% (g4_ ?_)); intro hS) | ((refine no_implicit_lambda% (g26_ ?_)); intro K hK) | (refine no_implicit_lambda% (g1_ ?_)) | ((refine no_implicit_lambda% (g6_ ?_)); intro K hK) | (refine no_implicit_lambda% (g3_ ?_))
      | (go_at_call 31; refine (in_c _ _ _ _).mono ?_; rintro e w' ⟨rfl, rfl⟩; rw [e1])
      | (go_at_call 43; refine (hbare.out _ hB).mono ?_; rintro e w2 ⟨he, hb2⟩; obtain rfl := he.out; have hB := hB.trans (hb2.mono hB.size); have x0 := keepc hb2 x0; have x1 := keepc hb2 x1; have x2 := keepc hb2 x2; have x3 := keepc hb2 x3; have x4 := keepc hb2 x4; have x5 := keepc hb2 x5; have x6 := keepc hb2 x6; have x7 := keepc hb2 x7; have x8 := keepc hb2 x8; have x9 := keepc hb2 x9; have x10 := keepc hb2 x10; have hb2 := hb2)
      | (go_at_call 25; refine (hsame.out _ hB).mono ?_; rintro e w3 ⟨rfl, hb3⟩; rw [eB]; have hB := hB.trans (hb3.mono hB.size); have x0 := keepc hb3 x0; have x1 := keepc hb3 x1; have x2 := keepc hb3 x2; have x3 := keepc hb3 x3; have x4 := keepc hb3 x4; have x5 := keepc hb3 x5; have x6 := keepc hb3 x6; have x7 := keepc hb3 x7; have x8 := keepc hb3 x8; have x9 := keepc hb3 x9; have x10 := keepc hb3 x10; have hb3 := hb3)
      | (go_at_call 14; refine (isKeeper_c _ _).mono ?_; rintro e w' ⟨rfl, rfl⟩; rw [eK])
      | (go_at_call 37; refine (isView_c _ _).mono ?_; rintro e w' ⟨rfl, rfl⟩; rw [eV])
      | (go_at_call 44; refine (ReqOk_c _ _ _ _ _ _).mono ?_; rintro e w4 ⟨rfl, hb4⟩; have hB := hB.trans (hb4.mono hB.size))
      | (go_at_call 45; refine (isSeq_c _ _).mono ?_; rintro e w' ⟨rfl, rfl⟩)
      | (go_at_call 46; refine (okOrNull_c _ _ _ _ _ _).mono ?_; rintro e w4 ⟨rfl, hb4⟩; have hB := hB.trans (hb4.mono hB.size))
      | (go_at_call 38; refine (hclk.out _ hB).mono ?_; rintro e w4 ⟨rfl, hb4⟩; have hB := hB.trans (hb4.mono hB.size))
      | (go_at_call 47; refine (hvok.out _ hB).mono ?_; rintro e w4 ⟨rfl, hb4⟩; have hB := hB.trans (hb4.mono hB.size))
      | fail)
    all_goals
      go_ret
      refine ⟨congrArg (fun b => Ending.returned (.bool b)) ?_, hB⟩
      have g0 := eB2.out
      clear eB' eB eB2
      simp only [okMsgI, g0]
      clear g0
      simp [e1, *]
  · have eB' := hide eB
    have eB2 : Hid (decide (((2, f, v, s, (a, b, c0, x, y), cs, vs) : MsgT) = bareM (2, f, v, s, (a, b, c0, x, y), cs, vs)) = true) := hide (by rw [decide_eq_true_eq, hBM.out]; exact of_decide_eq_true eB)
    cases eK : inB f 0 3
    · have eK' := hide eK
      go_enter Tryz.func23, Tryz.ntmps23
      go_wp2
      generalize w.alloc (.cells #[.int .i64 2, .int .i64 f, .int .i64 v, .int .i64 s, .int .i64 a, .int .i64 b, .int .i64 c0, .int .i64 x, .int .i64 y, .slice A n c, .slice B p d] 46) = w1 at *
      have hB := hB.drew
      refine wp_region_T (Since _) [] [] [8] [0, 1, 2, 3, 4, 5, 6, 7, 8, 9, 10, 11, 12, 13, 14, 15, 16, 17, 18, 19, 20, 21, 22] (by kernel_rfl) (by kernel_rfl) (by kernel_rfl) (Since.drew _) ?_; simp only [pickL, List.getElem?_cons_succ, List.getElem?_cons_zero]
      go_wp2_with (first
        | ((refine no_implicit_lambda% (g4_ ?_)); intro hS) | ((refine no_implicit_lambda% (g26_ ?_)); intro K hK) | (refine no_implicit_lambda% (g1_ ?_)) | ((refine no_implicit_lambda% (g6_ ?_)); intro K hK) | (refine no_implicit_lambda% (g3_ ?_))
        | (go_at_call 31; refine (in_c _ _ _ _).mono ?_; rintro e w' ⟨rfl, rfl⟩; rw [e1])
        | (go_at_call 43; refine (hbare.out _ hB).mono ?_; rintro e w2 ⟨he, hb2⟩; obtain rfl := he.out; have hB := hB.trans (hb2.mono hB.size); have x0 := keepc hb2 x0; have x1 := keepc hb2 x1; have x2 := keepc hb2 x2; have x3 := keepc hb2 x3; have x4 := keepc hb2 x4; have x5 := keepc hb2 x5; have x6 := keepc hb2 x6; have x7 := keepc hb2 x7; have x8 := keepc hb2 x8; have x9 := keepc hb2 x9; have x10 := keepc hb2 x10; have hb2 := hb2)
        | (go_at_call 25; refine (hsame.out _ hB).mono ?_; rintro e w3 ⟨rfl, hb3⟩; rw [eB]; have hB := hB.trans (hb3.mono hB.size); have x0 := keepc hb3 x0; have x1 := keepc hb3 x1; have x2 := keepc hb3 x2; have x3 := keepc hb3 x3; have x4 := keepc hb3 x4; have x5 := keepc hb3 x5; have x6 := keepc hb3 x6; have x7 := keepc hb3 x7; have x8 := keepc hb3 x8; have x9 := keepc hb3 x9; have x10 := keepc hb3 x10; have hb3 := hb3)
        | (go_at_call 14; refine (isKeeper_c _ _).mono ?_; rintro e w' ⟨rfl, rfl⟩; rw [eK])
        | (go_at_call 37; refine (isView_c _ _).mono ?_; rintro e w' ⟨rfl, rfl⟩; rw [eV])
        | (go_at_call 44; refine (ReqOk_c _ _ _ _ _ _).mono ?_; rintro e w4 ⟨rfl, hb4⟩; have hB := hB.trans (hb4.mono hB.size))
        | (go_at_call 45; refine (isSeq_c _ _).mono ?_; rintro e w' ⟨rfl, rfl⟩)
        | (go_at_call 46; refine (okOrNull_c _ _ _ _ _ _).mono ?_; rintro e w4 ⟨rfl, hb4⟩; have hB := hB.trans (hb4.mono hB.size))
        | (go_at_call 38; refine (hclk.out _ hB).mono ?_; rintro e w4 ⟨rfl, hb4⟩; have hB := hB.trans (hb4.mono hB.size))
        | (go_at_call 47; refine (hvok.out _ hB).mono ?_; rintro e w4 ⟨rfl, hb4⟩; have hB := hB.trans (hb4.mono hB.size))
        | fail)
      all_goals
        go_ret
        refine ⟨congrArg (fun b => Ending.returned (.bool b)) ?_, hB⟩
        have g0 := eB2.out
        have eK' := eK'.out
        clear eB' eB eB2
        simp only [okMsgI, g0]
        clear g0
        simp [e1, *]
    · have eK' := hide eK
      cases eV : inB v 0 6
      · have eV' := hide eV
        go_enter Tryz.func23, Tryz.ntmps23
        go_wp2
        generalize w.alloc (.cells #[.int .i64 2, .int .i64 f, .int .i64 v, .int .i64 s, .int .i64 a, .int .i64 b, .int .i64 c0, .int .i64 x, .int .i64 y, .slice A n c, .slice B p d] 46) = w1 at *
        have hB := hB.drew
        refine wp_region_T (Since _) [] [] [8] [0, 1, 2, 3, 4, 5, 6, 7, 8, 9, 10, 11, 12, 13, 14, 15, 16, 17, 18, 19, 20, 21, 22] (by kernel_rfl) (by kernel_rfl) (by kernel_rfl) (Since.drew _) ?_; simp only [pickL, List.getElem?_cons_succ, List.getElem?_cons_zero]
        go_wp2_with (first
          | ((refine no_implicit_lambda% (g4_ ?_)); intro hS) | ((refine no_implicit_lambda% (g26_ ?_)); intro K hK) | (refine no_implicit_lambda% (g1_ ?_)) | ((refine no_implicit_lambda% (g6_ ?_)); intro K hK) | (refine no_implicit_lambda% (g3_ ?_))
          | (go_at_call 31; refine (in_c _ _ _ _).mono ?_; rintro e w' ⟨rfl, rfl⟩; rw [e1])
          | (go_at_call 43; refine (hbare.out _ hB).mono ?_; rintro e w2 ⟨he, hb2⟩; obtain rfl := he.out; have hB := hB.trans (hb2.mono hB.size); have x0 := keepc hb2 x0; have x1 := keepc hb2 x1; have x2 := keepc hb2 x2; have x3 := keepc hb2 x3; have x4 := keepc hb2 x4; have x5 := keepc hb2 x5; have x6 := keepc hb2 x6; have x7 := keepc hb2 x7; have x8 := keepc hb2 x8; have x9 := keepc hb2 x9; have x10 := keepc hb2 x10; have hb2 := hb2)
          | (go_at_call 25; refine (hsame.out _ hB).mono ?_; rintro e w3 ⟨rfl, hb3⟩; rw [eB]; have hB := hB.trans (hb3.mono hB.size); have x0 := keepc hb3 x0; have x1 := keepc hb3 x1; have x2 := keepc hb3 x2; have x3 := keepc hb3 x3; have x4 := keepc hb3 x4; have x5 := keepc hb3 x5; have x6 := keepc hb3 x6; have x7 := keepc hb3 x7; have x8 := keepc hb3 x8; have x9 := keepc hb3 x9; have x10 := keepc hb3 x10; have hb3 := hb3)
          | (go_at_call 14; refine (isKeeper_c _ _).mono ?_; rintro e w' ⟨rfl, rfl⟩; rw [eK])
          | (go_at_call 37; refine (isView_c _ _).mono ?_; rintro e w' ⟨rfl, rfl⟩; rw [eV])
          | (go_at_call 44; refine (ReqOk_c _ _ _ _ _ _).mono ?_; rintro e w4 ⟨rfl, hb4⟩; have hB := hB.trans (hb4.mono hB.size))
          | (go_at_call 45; refine (isSeq_c _ _).mono ?_; rintro e w' ⟨rfl, rfl⟩)
          | (go_at_call 46; refine (okOrNull_c _ _ _ _ _ _).mono ?_; rintro e w4 ⟨rfl, hb4⟩; have hB := hB.trans (hb4.mono hB.size))
          | (go_at_call 38; refine (hclk.out _ hB).mono ?_; rintro e w4 ⟨rfl, hb4⟩; have hB := hB.trans (hb4.mono hB.size))
          | (go_at_call 47; refine (hvok.out _ hB).mono ?_; rintro e w4 ⟨rfl, hb4⟩; have hB := hB.trans (hb4.mono hB.size))
          | fail)
        all_goals
          go_ret
          refine ⟨congrArg (fun b => Ending.returned (.bool b)) ?_, hB⟩
          have g0 := eB2.out
          have eK' := eK'.out
          have eV' := eV'.out
          clear eB' eB eB2
          simp only [okMsgI, g0]
          clear g0
          simp [e1, *]
      · have eV' := hide eV
        go_enter Tryz.func23, Tryz.ntmps23
        go_wp2
        generalize w.alloc (.cells #[.int .i64 2, .int .i64 f, .int .i64 v, .int .i64 s, .int .i64 a, .int .i64 b, .int .i64 c0, .int .i64 x, .int .i64 y, .slice A n c, .slice B p d] 46) = w1 at *
        have hB := hB.drew
        refine wp_region_T (Since _) [] [] [8] [0, 1, 2, 3, 4, 5, 6, 7, 8, 9, 10, 11, 12, 13, 14, 15, 16, 17, 18, 19, 20, 21, 22] (by kernel_rfl) (by kernel_rfl) (by kernel_rfl) (Since.drew _) ?_; simp only [pickL, List.getElem?_cons_succ, List.getElem?_cons_zero]
        go_wp2_with (first
          | ((refine no_implicit_lambda% (g4_ ?_)); intro hS) | ((refine no_implicit_lambda% (g26_ ?_)); intro K hK) | (refine no_implicit_lambda% (g1_ ?_)) | ((refine no_implicit_lambda% (g6_ ?_)); intro K hK) | (refine no_implicit_lambda% (g3_ ?_))
          | (go_at_call 31; refine (in_c _ _ _ _).mono ?_; rintro e w' ⟨rfl, rfl⟩; rw [e1])
          | (go_at_call 43; refine (hbare.out _ hB).mono ?_; rintro e w2 ⟨he, hb2⟩; obtain rfl := he.out; have hB := hB.trans (hb2.mono hB.size); have x0 := keepc hb2 x0; have x1 := keepc hb2 x1; have x2 := keepc hb2 x2; have x3 := keepc hb2 x3; have x4 := keepc hb2 x4; have x5 := keepc hb2 x5; have x6 := keepc hb2 x6; have x7 := keepc hb2 x7; have x8 := keepc hb2 x8; have x9 := keepc hb2 x9; have x10 := keepc hb2 x10; have hb2 := hb2)
          | (go_at_call 25; refine (hsame.out _ hB).mono ?_; rintro e w3 ⟨rfl, hb3⟩; rw [eB]; have hB := hB.trans (hb3.mono hB.size); have x0 := keepc hb3 x0; have x1 := keepc hb3 x1; have x2 := keepc hb3 x2; have x3 := keepc hb3 x3; have x4 := keepc hb3 x4; have x5 := keepc hb3 x5; have x6 := keepc hb3 x6; have x7 := keepc hb3 x7; have x8 := keepc hb3 x8; have x9 := keepc hb3 x9; have x10 := keepc hb3 x10; have hb3 := hb3)
          | (go_at_call 14; refine (isKeeper_c _ _).mono ?_; rintro e w' ⟨rfl, rfl⟩; rw [eK])
          | (go_at_call 37; refine (isView_c _ _).mono ?_; rintro e w' ⟨rfl, rfl⟩; rw [eV])
          | (go_at_call 44; refine (ReqOk_c _ _ _ _ _ _).mono ?_; rintro e w4 ⟨rfl, hb4⟩; have hB := hB.trans (hb4.mono hB.size))
          | (go_at_call 45; refine (isSeq_c _ _).mono ?_; rintro e w' ⟨rfl, rfl⟩)
          | (go_at_call 46; refine (okOrNull_c _ _ _ _ _ _).mono ?_; rintro e w4 ⟨rfl, hb4⟩; have hB := hB.trans (hb4.mono hB.size))
          | (go_at_call 38; refine (hclk.out _ hB).mono ?_; rintro e w4 ⟨rfl, hb4⟩; have hB := hB.trans (hb4.mono hB.size))
          | (go_at_call 47; refine (hvok.out _ hB).mono ?_; rintro e w4 ⟨rfl, hb4⟩; have hB := hB.trans (hb4.mono hB.size))
          | fail)
        all_goals
          go_ret
          refine ⟨congrArg (fun b => Ending.returned (.bool b)) ?_, hB⟩
          have g0 := eB2.out
          have eK' := eK'.out
          have eV' := eV'.out
          clear eB' eB eB2
          simp only [okMsgI, g0]
          clear g0
          simp [e1, *]
set_option maxRecDepth 100000 in
set_option maxHeartbeats 4000000 in
theorem MsgOk3_c (kd f v s a b c0 x y : Int) (cs : List ClaimT) (vs : List VoteT) (A B : Option Addr) (n c p d lo hi : Nat) (w : World) (hc : RdN 7 clR w lo hi A n c cs) (hv : RdN 2 voteR w lo hi B p d vs) (hhi : hi ≤ w.heap.size) :
    Calls Tryz.prog 23 #[.agg #[.int .i64 3, .int .i64 f, .int .i64 v, .int .i64 s, .int .i64 a, .int .i64 b, .int .i64 c0, .int .i64 x, .int .i64 y, .slice A n c, .slice B p d]] w fun e w' => e = .returned (.bool (okMsgI (3, f, v, s, (a, b, c0, x, y), cs, vs))) ∧ Below w.heap.size w w' := by
  have hB : Below w.heap.size w (w.alloc (.cells #[.int .i64 3, .int .i64 f, .int .i64 v, .int .i64 s, .int .i64 a, .int .i64 b, .int .i64 c0, .int .i64 x, .int .i64 y, .slice A n c, .slice B p d] 46)) := (Below.refl _ _).alloc (Nat.le_refl _) _
  have x0 : (w.alloc (.cells #[.int .i64 3, .int .i64 f, .int .i64 v, .int .i64 s, .int .i64 a, .int .i64 b, .int .i64 c0, .int .i64 x, .int .i64 y, .slice A n c, .slice B p d] 46)).cell? ⟨w.heap.size, 0, none⟩ = some (.int .i64 3) := by simp
  have x1 : (w.alloc (.cells #[.int .i64 3, .int .i64 f, .int .i64 v, .int .i64 s, .int .i64 a, .int .i64 b, .int .i64 c0, .int .i64 x, .int .i64 y, .slice A n c, .slice B p d] 46)).cell? ⟨w.heap.size, 1, none⟩ = some (.int .i64 f) := by simp
  have x2 : (w.alloc (.cells #[.int .i64 3, .int .i64 f, .int .i64 v, .int .i64 s, .int .i64 a, .int .i64 b, .int .i64 c0, .int .i64 x, .int .i64 y, .slice A n c, .slice B p d] 46)).cell? ⟨w.heap.size, 2, none⟩ = some (.int .i64 v) := by simp
  have x3 : (w.alloc (.cells #[.int .i64 3, .int .i64 f, .int .i64 v, .int .i64 s, .int .i64 a, .int .i64 b, .int .i64 c0, .int .i64 x, .int .i64 y, .slice A n c, .slice B p d] 46)).cell? ⟨w.heap.size, 3, none⟩ = some (.int .i64 s) := by simp
  have x4 : (w.alloc (.cells #[.int .i64 3, .int .i64 f, .int .i64 v, .int .i64 s, .int .i64 a, .int .i64 b, .int .i64 c0, .int .i64 x, .int .i64 y, .slice A n c, .slice B p d] 46)).cell? ⟨w.heap.size, 4, none⟩ = some (.int .i64 a) := by simp
  have x5 : (w.alloc (.cells #[.int .i64 3, .int .i64 f, .int .i64 v, .int .i64 s, .int .i64 a, .int .i64 b, .int .i64 c0, .int .i64 x, .int .i64 y, .slice A n c, .slice B p d] 46)).cell? ⟨w.heap.size, 5, none⟩ = some (.int .i64 b) := by simp
  have x6 : (w.alloc (.cells #[.int .i64 3, .int .i64 f, .int .i64 v, .int .i64 s, .int .i64 a, .int .i64 b, .int .i64 c0, .int .i64 x, .int .i64 y, .slice A n c, .slice B p d] 46)).cell? ⟨w.heap.size, 6, none⟩ = some (.int .i64 c0) := by simp
  have x7 : (w.alloc (.cells #[.int .i64 3, .int .i64 f, .int .i64 v, .int .i64 s, .int .i64 a, .int .i64 b, .int .i64 c0, .int .i64 x, .int .i64 y, .slice A n c, .slice B p d] 46)).cell? ⟨w.heap.size, 7, none⟩ = some (.int .i64 x) := by simp
  have x8 : (w.alloc (.cells #[.int .i64 3, .int .i64 f, .int .i64 v, .int .i64 s, .int .i64 a, .int .i64 b, .int .i64 c0, .int .i64 x, .int .i64 y, .slice A n c, .slice B p d] 46)).cell? ⟨w.heap.size, 8, none⟩ = some (.int .i64 y) := by simp
  have x9 : (w.alloc (.cells #[.int .i64 3, .int .i64 f, .int .i64 v, .int .i64 s, .int .i64 a, .int .i64 b, .int .i64 c0, .int .i64 x, .int .i64 y, .slice A n c, .slice B p d] 46)).cell? ⟨w.heap.size, 9, none⟩ = some (.slice A n c) := by simp
  have x10 : (w.alloc (.cells #[.int .i64 3, .int .i64 f, .int .i64 v, .int .i64 s, .int .i64 a, .int .i64 b, .int .i64 c0, .int .i64 x, .int .i64 y, .slice A n c, .slice B p d] 46)).cell? ⟨w.heap.size, 10, none⟩ = some (.slice B p d) := by simp
  have hl : w.heap.size < (w.alloc (.cells #[.int .i64 3, .int .i64 f, .int .i64 v, .int .i64 s, .int .i64 a, .int .i64 b, .int .i64 c0, .int .i64 x, .int .i64 y, .slice A n c, .slice B p d] 46)).heap.size := by simp
  have e1 : inB 3 1 6 = true := by decide
  have hBM : Hid (bareM (3, f, v, s, (a, b, c0, x, y), cs, vs) = (3, f, v, s, (a, b, c0, x, y), [], [])) := hide rfl
  have hbare := hide (fun W (h : Below w.heap.size w W) => bare3_c kd f v s a b c0 x y cs vs A B n c p d lo hi W (hc.below (flat_kept _) h hhi) (hv.below vote_kept h hhi) (Nat.le_trans hhi h.size))
  have hsame := hide (fun W (h : Below w.heap.size w W) => MsgSame_c (3, f, v, s, (a, b, c0, x, y), cs, vs) (3, f, v, s, (a, b, c0, x, y), [], []) A B none none n c p d 0 0 0 0 lo hi lo hi W (hc.below (flat_kept _) h hhi) (hv.below vote_kept h hhi) (RdN.nil_ _ _ _ _ _ _ _ (by simp [maxLen])) (RdN.nil_ _ _ _ _ _ _ _ (by simp [maxLen])) (Nat.le_trans hhi h.size) (Nat.le_trans hhi h.size))
  have hclk := hide (fun W (h : Below w.heap.size w W) => claimsOk_c A n c lo hi cs W (hc.below (flat_kept _) h hhi) (Nat.le_trans hhi h.size))
  have hvok := hide (fun W (h : Below w.heap.size w W) => votesOk_c B p d lo hi vs W (hv.below vote_kept h hhi) (Nat.le_trans hhi h.size))
  cases eB : decide (((3, f, v, s, (a, b, c0, x, y), cs, vs) : MsgT) = (3, f, v, s, (a, b, c0, x, y), [], []))
  · have eB' := hide eB
    have eB2 : Hid (decide (((3, f, v, s, (a, b, c0, x, y), cs, vs) : MsgT) = bareM (3, f, v, s, (a, b, c0, x, y), cs, vs)) = false) := hide (by rw [decide_eq_false_iff_not, hBM.out]; exact of_decide_eq_false eB)
    go_enter Tryz.func23, Tryz.ntmps23
    go_wp2
    generalize w.alloc (.cells #[.int .i64 3, .int .i64 f, .int .i64 v, .int .i64 s, .int .i64 a, .int .i64 b, .int .i64 c0, .int .i64 x, .int .i64 y, .slice A n c, .slice B p d] 46) = w1 at *
    have hB := hB.drew
    refine wp_region_T (Since _) [] [] [8] [0, 1, 2, 3, 4, 5, 6, 7, 8, 9, 10, 11, 12, 13, 14, 15, 16, 17, 18, 19, 20, 21, 22] (by kernel_rfl) (by kernel_rfl) (by kernel_rfl) (Since.drew _) ?_; simp only [pickL, List.getElem?_cons_succ, List.getElem?_cons_zero]
    go_wp2_with (first
      | ((refine no_implicit_lambda% (g4_ ?_)); intro hS) | ((refine no_implicit_lambda% (g26_ ?_)); intro K hK) | (refine no_implicit_lambda% (g1_ ?_)) | ((refine no_implicit_lambda% (g6_ ?_)); intro K hK) | (refine no_implicit_lambda% (g3_ ?_))
      | (go_at_call 31; refine (in_c _ _ _ _).mono ?_; rintro e w' ⟨rfl, rfl⟩; rw [e1])
      | (go_at_call 43; refine (hbare.out _ hB).mono ?_; rintro e w2 ⟨he, hb2⟩; obtain rfl := he.out; have hB := hB.trans (hb2.mono hB.size); have x0 := keepc hb2 x0; have x1 := keepc hb2 x1; have x2 := keepc hb2 x2; have x3 := keepc hb2 x3; have x4 := keepc hb2 x4; have x5 := keepc hb2 x5; have x6 := keepc hb2 x6; have x7 := keepc hb2 x7; have x8 := keepc hb2 x8; have x9 := keepc hb2 x9; have x10 := keepc hb2 x10; have hb2 := hb2)
      | (go_at_call 25; refine (hsame.out _ hB).mono ?_; rintro e w3 ⟨rfl, hb3⟩; rw [eB]; have hB := hB.trans (hb3.mono hB.size); have x0 := keepc hb3 x0; have x1 := keepc hb3 x1; have x2 := keepc hb3 x2; have x3 := keepc hb3 x3; have x4 := keepc hb3 x4; have x5 := keepc hb3 x5; have x6 := keepc hb3 x6; have x7 := keepc hb3 x7; have x8 := keepc hb3 x8; have x9 := keepc hb3 x9; have x10 := keepc hb3 x10; have hb3 := hb3)
      | (go_at_call 14; refine (isKeeper_c _ _).mono ?_; rintro e w' ⟨rfl, rfl⟩; rw [eK])
      | (go_at_call 37; refine (isView_c _ _).mono ?_; rintro e w' ⟨rfl, rfl⟩; rw [eV])
      | (go_at_call 44; refine (ReqOk_c _ _ _ _ _ _).mono ?_; rintro e w4 ⟨rfl, hb4⟩; have hB := hB.trans (hb4.mono hB.size))
      | (go_at_call 45; refine (isSeq_c _ _).mono ?_; rintro e w' ⟨rfl, rfl⟩)
      | (go_at_call 46; refine (okOrNull_c _ _ _ _ _ _).mono ?_; rintro e w4 ⟨rfl, hb4⟩; have hB := hB.trans (hb4.mono hB.size))
      | (go_at_call 38; refine (hclk.out _ hB).mono ?_; rintro e w4 ⟨rfl, hb4⟩; have hB := hB.trans (hb4.mono hB.size))
      | (go_at_call 47; refine (hvok.out _ hB).mono ?_; rintro e w4 ⟨rfl, hb4⟩; have hB := hB.trans (hb4.mono hB.size))
      | fail)
    all_goals
      go_ret
      refine ⟨congrArg (fun b => Ending.returned (.bool b)) ?_, hB⟩
      have g0 := eB2.out
      clear eB' eB eB2
      simp only [okMsgI, g0]
      clear g0
      simp [e1, *]
  · have eB' := hide eB
    have eB2 : Hid (decide (((3, f, v, s, (a, b, c0, x, y), cs, vs) : MsgT) = bareM (3, f, v, s, (a, b, c0, x, y), cs, vs)) = true) := hide (by rw [decide_eq_true_eq, hBM.out]; exact of_decide_eq_true eB)
    cases eK : inB f 0 3
    · have eK' := hide eK
      go_enter Tryz.func23, Tryz.ntmps23
      go_wp2
      generalize w.alloc (.cells #[.int .i64 3, .int .i64 f, .int .i64 v, .int .i64 s, .int .i64 a, .int .i64 b, .int .i64 c0, .int .i64 x, .int .i64 y, .slice A n c, .slice B p d] 46) = w1 at *
      have hB := hB.drew
      refine wp_region_T (Since _) [] [] [8] [0, 1, 2, 3, 4, 5, 6, 7, 8, 9, 10, 11, 12, 13, 14, 15, 16, 17, 18, 19, 20, 21, 22] (by kernel_rfl) (by kernel_rfl) (by kernel_rfl) (Since.drew _) ?_; simp only [pickL, List.getElem?_cons_succ, List.getElem?_cons_zero]
      go_wp2_with (first
        | ((refine no_implicit_lambda% (g4_ ?_)); intro hS) | ((refine no_implicit_lambda% (g26_ ?_)); intro K hK) | (refine no_implicit_lambda% (g1_ ?_)) | ((refine no_implicit_lambda% (g6_ ?_)); intro K hK) | (refine no_implicit_lambda% (g3_ ?_))
        | (go_at_call 31; refine (in_c _ _ _ _).mono ?_; rintro e w' ⟨rfl, rfl⟩; rw [e1])
        | (go_at_call 43; refine (hbare.out _ hB).mono ?_; rintro e w2 ⟨he, hb2⟩; obtain rfl := he.out; have hB := hB.trans (hb2.mono hB.size); have x0 := keepc hb2 x0; have x1 := keepc hb2 x1; have x2 := keepc hb2 x2; have x3 := keepc hb2 x3; have x4 := keepc hb2 x4; have x5 := keepc hb2 x5; have x6 := keepc hb2 x6; have x7 := keepc hb2 x7; have x8 := keepc hb2 x8; have x9 := keepc hb2 x9; have x10 := keepc hb2 x10; have hb2 := hb2)
        | (go_at_call 25; refine (hsame.out _ hB).mono ?_; rintro e w3 ⟨rfl, hb3⟩; rw [eB]; have hB := hB.trans (hb3.mono hB.size); have x0 := keepc hb3 x0; have x1 := keepc hb3 x1; have x2 := keepc hb3 x2; have x3 := keepc hb3 x3; have x4 := keepc hb3 x4; have x5 := keepc hb3 x5; have x6 := keepc hb3 x6; have x7 := keepc hb3 x7; have x8 := keepc hb3 x8; have x9 := keepc hb3 x9; have x10 := keepc hb3 x10; have hb3 := hb3)
        | (go_at_call 14; refine (isKeeper_c _ _).mono ?_; rintro e w' ⟨rfl, rfl⟩; rw [eK])
        | (go_at_call 37; refine (isView_c _ _).mono ?_; rintro e w' ⟨rfl, rfl⟩; rw [eV])
        | (go_at_call 44; refine (ReqOk_c _ _ _ _ _ _).mono ?_; rintro e w4 ⟨rfl, hb4⟩; have hB := hB.trans (hb4.mono hB.size))
        | (go_at_call 45; refine (isSeq_c _ _).mono ?_; rintro e w' ⟨rfl, rfl⟩)
        | (go_at_call 46; refine (okOrNull_c _ _ _ _ _ _).mono ?_; rintro e w4 ⟨rfl, hb4⟩; have hB := hB.trans (hb4.mono hB.size))
        | (go_at_call 38; refine (hclk.out _ hB).mono ?_; rintro e w4 ⟨rfl, hb4⟩; have hB := hB.trans (hb4.mono hB.size))
        | (go_at_call 47; refine (hvok.out _ hB).mono ?_; rintro e w4 ⟨rfl, hb4⟩; have hB := hB.trans (hb4.mono hB.size))
        | fail)
      all_goals
        go_ret
        refine ⟨congrArg (fun b => Ending.returned (.bool b)) ?_, hB⟩
        have g0 := eB2.out
        have eK' := eK'.out
        clear eB' eB eB2
        simp only [okMsgI, g0]
        clear g0
        simp [e1, *]
    · have eK' := hide eK
      cases eV : inB v 0 6
      · have eV' := hide eV
        go_enter Tryz.func23, Tryz.ntmps23
        go_wp2
        generalize w.alloc (.cells #[.int .i64 3, .int .i64 f, .int .i64 v, .int .i64 s, .int .i64 a, .int .i64 b, .int .i64 c0, .int .i64 x, .int .i64 y, .slice A n c, .slice B p d] 46) = w1 at *
        have hB := hB.drew
        refine wp_region_T (Since _) [] [] [8] [0, 1, 2, 3, 4, 5, 6, 7, 8, 9, 10, 11, 12, 13, 14, 15, 16, 17, 18, 19, 20, 21, 22] (by kernel_rfl) (by kernel_rfl) (by kernel_rfl) (Since.drew _) ?_; simp only [pickL, List.getElem?_cons_succ, List.getElem?_cons_zero]
        go_wp2_with (first
          | ((refine no_implicit_lambda% (g4_ ?_)); intro hS) | ((refine no_implicit_lambda% (g26_ ?_)); intro K hK) | (refine no_implicit_lambda% (g1_ ?_)) | ((refine no_implicit_lambda% (g6_ ?_)); intro K hK) | (refine no_implicit_lambda% (g3_ ?_))
          | (go_at_call 31; refine (in_c _ _ _ _).mono ?_; rintro e w' ⟨rfl, rfl⟩; rw [e1])
          | (go_at_call 43; refine (hbare.out _ hB).mono ?_; rintro e w2 ⟨he, hb2⟩; obtain rfl := he.out; have hB := hB.trans (hb2.mono hB.size); have x0 := keepc hb2 x0; have x1 := keepc hb2 x1; have x2 := keepc hb2 x2; have x3 := keepc hb2 x3; have x4 := keepc hb2 x4; have x5 := keepc hb2 x5; have x6 := keepc hb2 x6; have x7 := keepc hb2 x7; have x8 := keepc hb2 x8; have x9 := keepc hb2 x9; have x10 := keepc hb2 x10; have hb2 := hb2)
          | (go_at_call 25; refine (hsame.out _ hB).mono ?_; rintro e w3 ⟨rfl, hb3⟩; rw [eB]; have hB := hB.trans (hb3.mono hB.size); have x0 := keepc hb3 x0; have x1 := keepc hb3 x1; have x2 := keepc hb3 x2; have x3 := keepc hb3 x3; have x4 := keepc hb3 x4; have x5 := keepc hb3 x5; have x6 := keepc hb3 x6; have x7 := keepc hb3 x7; have x8 := keepc hb3 x8; have x9 := keepc hb3 x9; have x10 := keepc hb3 x10; have hb3 := hb3)
          | (go_at_call 14; refine (isKeeper_c _ _).mono ?_; rintro e w' ⟨rfl, rfl⟩; rw [eK])
          | (go_at_call 37; refine (isView_c _ _).mono ?_; rintro e w' ⟨rfl, rfl⟩; rw [eV])
          | (go_at_call 44; refine (ReqOk_c _ _ _ _ _ _).mono ?_; rintro e w4 ⟨rfl, hb4⟩; have hB := hB.trans (hb4.mono hB.size))
          | (go_at_call 45; refine (isSeq_c _ _).mono ?_; rintro e w' ⟨rfl, rfl⟩)
          | (go_at_call 46; refine (okOrNull_c _ _ _ _ _ _).mono ?_; rintro e w4 ⟨rfl, hb4⟩; have hB := hB.trans (hb4.mono hB.size))
          | (go_at_call 38; refine (hclk.out _ hB).mono ?_; rintro e w4 ⟨rfl, hb4⟩; have hB := hB.trans (hb4.mono hB.size))
          | (go_at_call 47; refine (hvok.out _ hB).mono ?_; rintro e w4 ⟨rfl, hb4⟩; have hB := hB.trans (hb4.mono hB.size))
          | fail)
        all_goals
          go_ret
          refine ⟨congrArg (fun b => Ending.returned (.bool b)) ?_, hB⟩
          have g0 := eB2.out
          have eK' := eK'.out
          have eV' := eV'.out
          clear eB' eB eB2
          simp only [okMsgI, g0]
          clear g0
          simp [e1, *]
      · have eV' := hide eV
        go_enter Tryz.func23, Tryz.ntmps23
        go_wp2
        generalize w.alloc (.cells #[.int .i64 3, .int .i64 f, .int .i64 v, .int .i64 s, .int .i64 a, .int .i64 b, .int .i64 c0, .int .i64 x, .int .i64 y, .slice A n c, .slice B p d] 46) = w1 at *
        have hB := hB.drew
        refine wp_region_T (Since _) [] [] [8] [0, 1, 2, 3, 4, 5, 6, 7, 8, 9, 10, 11, 12, 13, 14, 15, 16, 17, 18, 19, 20, 21, 22] (by kernel_rfl) (by kernel_rfl) (by kernel_rfl) (Since.drew _) ?_; simp only [pickL, List.getElem?_cons_succ, List.getElem?_cons_zero]
        go_wp2_with (first
          | ((refine no_implicit_lambda% (g4_ ?_)); intro hS) | ((refine no_implicit_lambda% (g26_ ?_)); intro K hK) | (refine no_implicit_lambda% (g1_ ?_)) | ((refine no_implicit_lambda% (g6_ ?_)); intro K hK) | (refine no_implicit_lambda% (g3_ ?_))
          | (go_at_call 31; refine (in_c _ _ _ _).mono ?_; rintro e w' ⟨rfl, rfl⟩; rw [e1])
          | (go_at_call 43; refine (hbare.out _ hB).mono ?_; rintro e w2 ⟨he, hb2⟩; obtain rfl := he.out; have hB := hB.trans (hb2.mono hB.size); have x0 := keepc hb2 x0; have x1 := keepc hb2 x1; have x2 := keepc hb2 x2; have x3 := keepc hb2 x3; have x4 := keepc hb2 x4; have x5 := keepc hb2 x5; have x6 := keepc hb2 x6; have x7 := keepc hb2 x7; have x8 := keepc hb2 x8; have x9 := keepc hb2 x9; have x10 := keepc hb2 x10; have hb2 := hb2)
          | (go_at_call 25; refine (hsame.out _ hB).mono ?_; rintro e w3 ⟨rfl, hb3⟩; rw [eB]; have hB := hB.trans (hb3.mono hB.size); have x0 := keepc hb3 x0; have x1 := keepc hb3 x1; have x2 := keepc hb3 x2; have x3 := keepc hb3 x3; have x4 := keepc hb3 x4; have x5 := keepc hb3 x5; have x6 := keepc hb3 x6; have x7 := keepc hb3 x7; have x8 := keepc hb3 x8; have x9 := keepc hb3 x9; have x10 := keepc hb3 x10; have hb3 := hb3)
          | (go_at_call 14; refine (isKeeper_c _ _).mono ?_; rintro e w' ⟨rfl, rfl⟩; rw [eK])
          | (go_at_call 37; refine (isView_c _ _).mono ?_; rintro e w' ⟨rfl, rfl⟩; rw [eV])
          | (go_at_call 44; refine (ReqOk_c _ _ _ _ _ _).mono ?_; rintro e w4 ⟨rfl, hb4⟩; have hB := hB.trans (hb4.mono hB.size))
          | (go_at_call 45; refine (isSeq_c _ _).mono ?_; rintro e w' ⟨rfl, rfl⟩)
          | (go_at_call 46; refine (okOrNull_c _ _ _ _ _ _).mono ?_; rintro e w4 ⟨rfl, hb4⟩; have hB := hB.trans (hb4.mono hB.size))
          | (go_at_call 38; refine (hclk.out _ hB).mono ?_; rintro e w4 ⟨rfl, hb4⟩; have hB := hB.trans (hb4.mono hB.size))
          | (go_at_call 47; refine (hvok.out _ hB).mono ?_; rintro e w4 ⟨rfl, hb4⟩; have hB := hB.trans (hb4.mono hB.size))
          | fail)
        all_goals
          go_ret
          refine ⟨congrArg (fun b => Ending.returned (.bool b)) ?_, hB⟩
          have g0 := eB2.out
          have eK' := eK'.out
          have eV' := eV'.out
          clear eB' eB eB2
          simp only [okMsgI, g0]
          clear g0
          simp [e1, *]
set_option maxRecDepth 100000 in
set_option maxHeartbeats 4000000 in
theorem MsgOk4_c (kd f v s a b c0 x y : Int) (cs : List ClaimT) (vs : List VoteT) (A B : Option Addr) (n c p d lo hi : Nat) (w : World) (hc : RdN 7 clR w lo hi A n c cs) (hv : RdN 2 voteR w lo hi B p d vs) (hhi : hi ≤ w.heap.size) :
    Calls Tryz.prog 23 #[.agg #[.int .i64 4, .int .i64 f, .int .i64 v, .int .i64 s, .int .i64 a, .int .i64 b, .int .i64 c0, .int .i64 x, .int .i64 y, .slice A n c, .slice B p d]] w fun e w' => e = .returned (.bool (okMsgI (4, f, v, s, (a, b, c0, x, y), cs, vs))) ∧ Below w.heap.size w w' := by
  have hB : Below w.heap.size w (w.alloc (.cells #[.int .i64 4, .int .i64 f, .int .i64 v, .int .i64 s, .int .i64 a, .int .i64 b, .int .i64 c0, .int .i64 x, .int .i64 y, .slice A n c, .slice B p d] 46)) := (Below.refl _ _).alloc (Nat.le_refl _) _
  have x0 : (w.alloc (.cells #[.int .i64 4, .int .i64 f, .int .i64 v, .int .i64 s, .int .i64 a, .int .i64 b, .int .i64 c0, .int .i64 x, .int .i64 y, .slice A n c, .slice B p d] 46)).cell? ⟨w.heap.size, 0, none⟩ = some (.int .i64 4) := by simp
  have x1 : (w.alloc (.cells #[.int .i64 4, .int .i64 f, .int .i64 v, .int .i64 s, .int .i64 a, .int .i64 b, .int .i64 c0, .int .i64 x, .int .i64 y, .slice A n c, .slice B p d] 46)).cell? ⟨w.heap.size, 1, none⟩ = some (.int .i64 f) := by simp
  have x2 : (w.alloc (.cells #[.int .i64 4, .int .i64 f, .int .i64 v, .int .i64 s, .int .i64 a, .int .i64 b, .int .i64 c0, .int .i64 x, .int .i64 y, .slice A n c, .slice B p d] 46)).cell? ⟨w.heap.size, 2, none⟩ = some (.int .i64 v) := by simp
  have x3 : (w.alloc (.cells #[.int .i64 4, .int .i64 f, .int .i64 v, .int .i64 s, .int .i64 a, .int .i64 b, .int .i64 c0, .int .i64 x, .int .i64 y, .slice A n c, .slice B p d] 46)).cell? ⟨w.heap.size, 3, none⟩ = some (.int .i64 s) := by simp
  have x4 : (w.alloc (.cells #[.int .i64 4, .int .i64 f, .int .i64 v, .int .i64 s, .int .i64 a, .int .i64 b, .int .i64 c0, .int .i64 x, .int .i64 y, .slice A n c, .slice B p d] 46)).cell? ⟨w.heap.size, 4, none⟩ = some (.int .i64 a) := by simp
  have x5 : (w.alloc (.cells #[.int .i64 4, .int .i64 f, .int .i64 v, .int .i64 s, .int .i64 a, .int .i64 b, .int .i64 c0, .int .i64 x, .int .i64 y, .slice A n c, .slice B p d] 46)).cell? ⟨w.heap.size, 5, none⟩ = some (.int .i64 b) := by simp
  have x6 : (w.alloc (.cells #[.int .i64 4, .int .i64 f, .int .i64 v, .int .i64 s, .int .i64 a, .int .i64 b, .int .i64 c0, .int .i64 x, .int .i64 y, .slice A n c, .slice B p d] 46)).cell? ⟨w.heap.size, 6, none⟩ = some (.int .i64 c0) := by simp
  have x7 : (w.alloc (.cells #[.int .i64 4, .int .i64 f, .int .i64 v, .int .i64 s, .int .i64 a, .int .i64 b, .int .i64 c0, .int .i64 x, .int .i64 y, .slice A n c, .slice B p d] 46)).cell? ⟨w.heap.size, 7, none⟩ = some (.int .i64 x) := by simp
  have x8 : (w.alloc (.cells #[.int .i64 4, .int .i64 f, .int .i64 v, .int .i64 s, .int .i64 a, .int .i64 b, .int .i64 c0, .int .i64 x, .int .i64 y, .slice A n c, .slice B p d] 46)).cell? ⟨w.heap.size, 8, none⟩ = some (.int .i64 y) := by simp
  have x9 : (w.alloc (.cells #[.int .i64 4, .int .i64 f, .int .i64 v, .int .i64 s, .int .i64 a, .int .i64 b, .int .i64 c0, .int .i64 x, .int .i64 y, .slice A n c, .slice B p d] 46)).cell? ⟨w.heap.size, 9, none⟩ = some (.slice A n c) := by simp
  have x10 : (w.alloc (.cells #[.int .i64 4, .int .i64 f, .int .i64 v, .int .i64 s, .int .i64 a, .int .i64 b, .int .i64 c0, .int .i64 x, .int .i64 y, .slice A n c, .slice B p d] 46)).cell? ⟨w.heap.size, 10, none⟩ = some (.slice B p d) := by simp
  have hl : w.heap.size < (w.alloc (.cells #[.int .i64 4, .int .i64 f, .int .i64 v, .int .i64 s, .int .i64 a, .int .i64 b, .int .i64 c0, .int .i64 x, .int .i64 y, .slice A n c, .slice B p d] 46)).heap.size := by simp
  have e1 : inB 4 1 6 = true := by decide
  have hBM : Hid (bareM (4, f, v, s, (a, b, c0, x, y), cs, vs) = (4, f, v, s, (a, b, c0, x, y), [], [])) := hide rfl
  have hbare := hide (fun W (h : Below w.heap.size w W) => bare4_c kd f v s a b c0 x y cs vs A B n c p d lo hi W (hc.below (flat_kept _) h hhi) (hv.below vote_kept h hhi) (Nat.le_trans hhi h.size))
  have hsame := hide (fun W (h : Below w.heap.size w W) => MsgSame_c (4, f, v, s, (a, b, c0, x, y), cs, vs) (4, f, v, s, (a, b, c0, x, y), [], []) A B none none n c p d 0 0 0 0 lo hi lo hi W (hc.below (flat_kept _) h hhi) (hv.below vote_kept h hhi) (RdN.nil_ _ _ _ _ _ _ _ (by simp [maxLen])) (RdN.nil_ _ _ _ _ _ _ _ (by simp [maxLen])) (Nat.le_trans hhi h.size) (Nat.le_trans hhi h.size))
  have hclk := hide (fun W (h : Below w.heap.size w W) => claimsOk_c A n c lo hi cs W (hc.below (flat_kept _) h hhi) (Nat.le_trans hhi h.size))
  have hvok := hide (fun W (h : Below w.heap.size w W) => votesOk_c B p d lo hi vs W (hv.below vote_kept h hhi) (Nat.le_trans hhi h.size))
  cases eB : decide (((4, f, v, s, (a, b, c0, x, y), cs, vs) : MsgT) = (4, f, v, s, (a, b, c0, x, y), [], []))
  · have eB' := hide eB
    have eB2 : Hid (decide (((4, f, v, s, (a, b, c0, x, y), cs, vs) : MsgT) = bareM (4, f, v, s, (a, b, c0, x, y), cs, vs)) = false) := hide (by rw [decide_eq_false_iff_not, hBM.out]; exact of_decide_eq_false eB)
    go_enter Tryz.func23, Tryz.ntmps23
    go_wp2
    generalize w.alloc (.cells #[.int .i64 4, .int .i64 f, .int .i64 v, .int .i64 s, .int .i64 a, .int .i64 b, .int .i64 c0, .int .i64 x, .int .i64 y, .slice A n c, .slice B p d] 46) = w1 at *
    have hB := hB.drew
    refine wp_region_T (Since _) [] [] [8] [0, 1, 2, 3, 4, 5, 6, 7, 8, 9, 10, 11, 12, 13, 14, 15, 16, 17, 18, 19, 20, 21, 22] (by kernel_rfl) (by kernel_rfl) (by kernel_rfl) (Since.drew _) ?_; simp only [pickL, List.getElem?_cons_succ, List.getElem?_cons_zero]
    go_wp2_with (first
      | ((refine no_implicit_lambda% (g4_ ?_)); intro hS) | ((refine no_implicit_lambda% (g26_ ?_)); intro K hK) | (refine no_implicit_lambda% (g1_ ?_)) | ((refine no_implicit_lambda% (g6_ ?_)); intro K hK) | (refine no_implicit_lambda% (g3_ ?_))
      | (go_at_call 31; refine (in_c _ _ _ _).mono ?_; rintro e w' ⟨rfl, rfl⟩; rw [e1])
      | (go_at_call 43; refine (hbare.out _ hB).mono ?_; rintro e w2 ⟨he, hb2⟩; obtain rfl := he.out; have hB := hB.trans (hb2.mono hB.size); have x0 := keepc hb2 x0; have x1 := keepc hb2 x1; have x2 := keepc hb2 x2; have x3 := keepc hb2 x3; have x4 := keepc hb2 x4; have x5 := keepc hb2 x5; have x6 := keepc hb2 x6; have x7 := keepc hb2 x7; have x8 := keepc hb2 x8; have x9 := keepc hb2 x9; have x10 := keepc hb2 x10; have hb2 := hb2)
      | (go_at_call 25; refine (hsame.out _ hB).mono ?_; rintro e w3 ⟨rfl, hb3⟩; rw [eB]; have hB := hB.trans (hb3.mono hB.size); have x0 := keepc hb3 x0; have x1 := keepc hb3 x1; have x2 := keepc hb3 x2; have x3 := keepc hb3 x3; have x4 := keepc hb3 x4; have x5 := keepc hb3 x5; have x6 := keepc hb3 x6; have x7 := keepc hb3 x7; have x8 := keepc hb3 x8; have x9 := keepc hb3 x9; have x10 := keepc hb3 x10; have hb3 := hb3)
      | (go_at_call 14; refine (isKeeper_c _ _).mono ?_; rintro e w' ⟨rfl, rfl⟩; rw [eK])
      | (go_at_call 37; refine (isView_c _ _).mono ?_; rintro e w' ⟨rfl, rfl⟩; rw [eV])
      | (go_at_call 44; refine (ReqOk_c _ _ _ _ _ _).mono ?_; rintro e w4 ⟨rfl, hb4⟩; have hB := hB.trans (hb4.mono hB.size))
      | (go_at_call 45; refine (isSeq_c _ _).mono ?_; rintro e w' ⟨rfl, rfl⟩)
      | (go_at_call 46; refine (okOrNull_c _ _ _ _ _ _).mono ?_; rintro e w4 ⟨rfl, hb4⟩; have hB := hB.trans (hb4.mono hB.size))
      | (go_at_call 38; refine (hclk.out _ hB).mono ?_; rintro e w4 ⟨rfl, hb4⟩; have hB := hB.trans (hb4.mono hB.size))
      | (go_at_call 47; refine (hvok.out _ hB).mono ?_; rintro e w4 ⟨rfl, hb4⟩; have hB := hB.trans (hb4.mono hB.size))
      | fail)
    all_goals
      go_ret
      refine ⟨congrArg (fun b => Ending.returned (.bool b)) ?_, hB⟩
      have g0 := eB2.out
      clear eB' eB eB2
      simp only [okMsgI, g0]
      clear g0
      simp [e1, *]
  · have eB' := hide eB
    have eB2 : Hid (decide (((4, f, v, s, (a, b, c0, x, y), cs, vs) : MsgT) = bareM (4, f, v, s, (a, b, c0, x, y), cs, vs)) = true) := hide (by rw [decide_eq_true_eq, hBM.out]; exact of_decide_eq_true eB)
    cases eK : inB f 0 3
    · have eK' := hide eK
      go_enter Tryz.func23, Tryz.ntmps23
      go_wp2
      generalize w.alloc (.cells #[.int .i64 4, .int .i64 f, .int .i64 v, .int .i64 s, .int .i64 a, .int .i64 b, .int .i64 c0, .int .i64 x, .int .i64 y, .slice A n c, .slice B p d] 46) = w1 at *
      have hB := hB.drew
      refine wp_region_T (Since _) [] [] [8] [0, 1, 2, 3, 4, 5, 6, 7, 8, 9, 10, 11, 12, 13, 14, 15, 16, 17, 18, 19, 20, 21, 22] (by kernel_rfl) (by kernel_rfl) (by kernel_rfl) (Since.drew _) ?_; simp only [pickL, List.getElem?_cons_succ, List.getElem?_cons_zero]
      go_wp2_with (first
        | ((refine no_implicit_lambda% (g4_ ?_)); intro hS) | ((refine no_implicit_lambda% (g26_ ?_)); intro K hK) | (refine no_implicit_lambda% (g1_ ?_)) | ((refine no_implicit_lambda% (g6_ ?_)); intro K hK) | (refine no_implicit_lambda% (g3_ ?_))
        | (go_at_call 31; refine (in_c _ _ _ _).mono ?_; rintro e w' ⟨rfl, rfl⟩; rw [e1])
        | (go_at_call 43; refine (hbare.out _ hB).mono ?_; rintro e w2 ⟨he, hb2⟩; obtain rfl := he.out; have hB := hB.trans (hb2.mono hB.size); have x0 := keepc hb2 x0; have x1 := keepc hb2 x1; have x2 := keepc hb2 x2; have x3 := keepc hb2 x3; have x4 := keepc hb2 x4; have x5 := keepc hb2 x5; have x6 := keepc hb2 x6; have x7 := keepc hb2 x7; have x8 := keepc hb2 x8; have x9 := keepc hb2 x9; have x10 := keepc hb2 x10; have hb2 := hb2)
        | (go_at_call 25; refine (hsame.out _ hB).mono ?_; rintro e w3 ⟨rfl, hb3⟩; rw [eB]; have hB := hB.trans (hb3.mono hB.size); have x0 := keepc hb3 x0; have x1 := keepc hb3 x1; have x2 := keepc hb3 x2; have x3 := keepc hb3 x3; have x4 := keepc hb3 x4; have x5 := keepc hb3 x5; have x6 := keepc hb3 x6; have x7 := keepc hb3 x7; have x8 := keepc hb3 x8; have x9 := keepc hb3 x9; have x10 := keepc hb3 x10; have hb3 := hb3)
        | (go_at_call 14; refine (isKeeper_c _ _).mono ?_; rintro e w' ⟨rfl, rfl⟩; rw [eK])
        | (go_at_call 37; refine (isView_c _ _).mono ?_; rintro e w' ⟨rfl, rfl⟩; rw [eV])
        | (go_at_call 44; refine (ReqOk_c _ _ _ _ _ _).mono ?_; rintro e w4 ⟨rfl, hb4⟩; have hB := hB.trans (hb4.mono hB.size))
        | (go_at_call 45; refine (isSeq_c _ _).mono ?_; rintro e w' ⟨rfl, rfl⟩)
        | (go_at_call 46; refine (okOrNull_c _ _ _ _ _ _).mono ?_; rintro e w4 ⟨rfl, hb4⟩; have hB := hB.trans (hb4.mono hB.size))
        | (go_at_call 38; refine (hclk.out _ hB).mono ?_; rintro e w4 ⟨rfl, hb4⟩; have hB := hB.trans (hb4.mono hB.size))
        | (go_at_call 47; refine (hvok.out _ hB).mono ?_; rintro e w4 ⟨rfl, hb4⟩; have hB := hB.trans (hb4.mono hB.size))
        | fail)
      all_goals
        go_ret
        refine ⟨congrArg (fun b => Ending.returned (.bool b)) ?_, hB⟩
        have g0 := eB2.out
        have eK' := eK'.out
        clear eB' eB eB2
        simp only [okMsgI, g0]
        clear g0
        simp [e1, *]
    · have eK' := hide eK
      cases eV : inB v 0 6
      · have eV' := hide eV
        go_enter Tryz.func23, Tryz.ntmps23
        go_wp2
        generalize w.alloc (.cells #[.int .i64 4, .int .i64 f, .int .i64 v, .int .i64 s, .int .i64 a, .int .i64 b, .int .i64 c0, .int .i64 x, .int .i64 y, .slice A n c, .slice B p d] 46) = w1 at *
        have hB := hB.drew
        refine wp_region_T (Since _) [] [] [8] [0, 1, 2, 3, 4, 5, 6, 7, 8, 9, 10, 11, 12, 13, 14, 15, 16, 17, 18, 19, 20, 21, 22] (by kernel_rfl) (by kernel_rfl) (by kernel_rfl) (Since.drew _) ?_; simp only [pickL, List.getElem?_cons_succ, List.getElem?_cons_zero]
        go_wp2_with (first
          | ((refine no_implicit_lambda% (g4_ ?_)); intro hS) | ((refine no_implicit_lambda% (g26_ ?_)); intro K hK) | (refine no_implicit_lambda% (g1_ ?_)) | ((refine no_implicit_lambda% (g6_ ?_)); intro K hK) | (refine no_implicit_lambda% (g3_ ?_))
          | (go_at_call 31; refine (in_c _ _ _ _).mono ?_; rintro e w' ⟨rfl, rfl⟩; rw [e1])
          | (go_at_call 43; refine (hbare.out _ hB).mono ?_; rintro e w2 ⟨he, hb2⟩; obtain rfl := he.out; have hB := hB.trans (hb2.mono hB.size); have x0 := keepc hb2 x0; have x1 := keepc hb2 x1; have x2 := keepc hb2 x2; have x3 := keepc hb2 x3; have x4 := keepc hb2 x4; have x5 := keepc hb2 x5; have x6 := keepc hb2 x6; have x7 := keepc hb2 x7; have x8 := keepc hb2 x8; have x9 := keepc hb2 x9; have x10 := keepc hb2 x10; have hb2 := hb2)
          | (go_at_call 25; refine (hsame.out _ hB).mono ?_; rintro e w3 ⟨rfl, hb3⟩; rw [eB]; have hB := hB.trans (hb3.mono hB.size); have x0 := keepc hb3 x0; have x1 := keepc hb3 x1; have x2 := keepc hb3 x2; have x3 := keepc hb3 x3; have x4 := keepc hb3 x4; have x5 := keepc hb3 x5; have x6 := keepc hb3 x6; have x7 := keepc hb3 x7; have x8 := keepc hb3 x8; have x9 := keepc hb3 x9; have x10 := keepc hb3 x10; have hb3 := hb3)
          | (go_at_call 14; refine (isKeeper_c _ _).mono ?_; rintro e w' ⟨rfl, rfl⟩; rw [eK])
          | (go_at_call 37; refine (isView_c _ _).mono ?_; rintro e w' ⟨rfl, rfl⟩; rw [eV])
          | (go_at_call 44; refine (ReqOk_c _ _ _ _ _ _).mono ?_; rintro e w4 ⟨rfl, hb4⟩; have hB := hB.trans (hb4.mono hB.size))
          | (go_at_call 45; refine (isSeq_c _ _).mono ?_; rintro e w' ⟨rfl, rfl⟩)
          | (go_at_call 46; refine (okOrNull_c _ _ _ _ _ _).mono ?_; rintro e w4 ⟨rfl, hb4⟩; have hB := hB.trans (hb4.mono hB.size))
          | (go_at_call 38; refine (hclk.out _ hB).mono ?_; rintro e w4 ⟨rfl, hb4⟩; have hB := hB.trans (hb4.mono hB.size))
          | (go_at_call 47; refine (hvok.out _ hB).mono ?_; rintro e w4 ⟨rfl, hb4⟩; have hB := hB.trans (hb4.mono hB.size))
          | fail)
        all_goals
          go_ret
          refine ⟨congrArg (fun b => Ending.returned (.bool b)) ?_, hB⟩
          have g0 := eB2.out
          have eK' := eK'.out
          have eV' := eV'.out
          clear eB' eB eB2
          simp only [okMsgI, g0]
          clear g0
          simp [e1, *]
      · have eV' := hide eV
        go_enter Tryz.func23, Tryz.ntmps23
        go_wp2
        generalize w.alloc (.cells #[.int .i64 4, .int .i64 f, .int .i64 v, .int .i64 s, .int .i64 a, .int .i64 b, .int .i64 c0, .int .i64 x, .int .i64 y, .slice A n c, .slice B p d] 46) = w1 at *
        have hB := hB.drew
        refine wp_region_T (Since _) [] [] [8] [0, 1, 2, 3, 4, 5, 6, 7, 8, 9, 10, 11, 12, 13, 14, 15, 16, 17, 18, 19, 20, 21, 22] (by kernel_rfl) (by kernel_rfl) (by kernel_rfl) (Since.drew _) ?_; simp only [pickL, List.getElem?_cons_succ, List.getElem?_cons_zero]
        go_wp2_with (first
          | ((refine no_implicit_lambda% (g4_ ?_)); intro hS) | ((refine no_implicit_lambda% (g26_ ?_)); intro K hK) | (refine no_implicit_lambda% (g1_ ?_)) | ((refine no_implicit_lambda% (g6_ ?_)); intro K hK) | (refine no_implicit_lambda% (g3_ ?_))
          | (go_at_call 31; refine (in_c _ _ _ _).mono ?_; rintro e w' ⟨rfl, rfl⟩; rw [e1])
          | (go_at_call 43; refine (hbare.out _ hB).mono ?_; rintro e w2 ⟨he, hb2⟩; obtain rfl := he.out; have hB := hB.trans (hb2.mono hB.size); have x0 := keepc hb2 x0; have x1 := keepc hb2 x1; have x2 := keepc hb2 x2; have x3 := keepc hb2 x3; have x4 := keepc hb2 x4; have x5 := keepc hb2 x5; have x6 := keepc hb2 x6; have x7 := keepc hb2 x7; have x8 := keepc hb2 x8; have x9 := keepc hb2 x9; have x10 := keepc hb2 x10; have hb2 := hb2)
          | (go_at_call 25; refine (hsame.out _ hB).mono ?_; rintro e w3 ⟨rfl, hb3⟩; rw [eB]; have hB := hB.trans (hb3.mono hB.size); have x0 := keepc hb3 x0; have x1 := keepc hb3 x1; have x2 := keepc hb3 x2; have x3 := keepc hb3 x3; have x4 := keepc hb3 x4; have x5 := keepc hb3 x5; have x6 := keepc hb3 x6; have x7 := keepc hb3 x7; have x8 := keepc hb3 x8; have x9 := keepc hb3 x9; have x10 := keepc hb3 x10; have hb3 := hb3)
          | (go_at_call 14; refine (isKeeper_c _ _).mono ?_; rintro e w' ⟨rfl, rfl⟩; rw [eK])
          | (go_at_call 37; refine (isView_c _ _).mono ?_; rintro e w' ⟨rfl, rfl⟩; rw [eV])
          | (go_at_call 44; refine (ReqOk_c _ _ _ _ _ _).mono ?_; rintro e w4 ⟨rfl, hb4⟩; have hB := hB.trans (hb4.mono hB.size))
          | (go_at_call 45; refine (isSeq_c _ _).mono ?_; rintro e w' ⟨rfl, rfl⟩)
          | (go_at_call 46; refine (okOrNull_c _ _ _ _ _ _).mono ?_; rintro e w4 ⟨rfl, hb4⟩; have hB := hB.trans (hb4.mono hB.size))
          | (go_at_call 38; refine (hclk.out _ hB).mono ?_; rintro e w4 ⟨rfl, hb4⟩; have hB := hB.trans (hb4.mono hB.size))
          | (go_at_call 47; refine (hvok.out _ hB).mono ?_; rintro e w4 ⟨rfl, hb4⟩; have hB := hB.trans (hb4.mono hB.size))
          | fail)
        all_goals
          go_ret
          refine ⟨congrArg (fun b => Ending.returned (.bool b)) ?_, hB⟩
          have g0 := eB2.out
          have eK' := eK'.out
          have eV' := eV'.out
          clear eB' eB eB2
          simp only [okMsgI, g0]
          clear g0
          simp [e1, *]
set_option maxRecDepth 100000 in
set_option maxHeartbeats 4000000 in
theorem MsgOk5_c (kd f v s a b c0 x y : Int) (cs : List ClaimT) (vs : List VoteT) (A B : Option Addr) (n c p d lo hi : Nat) (w : World) (hc : RdN 7 clR w lo hi A n c cs) (hv : RdN 2 voteR w lo hi B p d vs) (hhi : hi ≤ w.heap.size) :
    Calls Tryz.prog 23 #[.agg #[.int .i64 5, .int .i64 f, .int .i64 v, .int .i64 s, .int .i64 a, .int .i64 b, .int .i64 c0, .int .i64 x, .int .i64 y, .slice A n c, .slice B p d]] w fun e w' => e = .returned (.bool (okMsgI (5, f, v, s, (a, b, c0, x, y), cs, vs))) ∧ Below w.heap.size w w' := by
  have hB : Below w.heap.size w (w.alloc (.cells #[.int .i64 5, .int .i64 f, .int .i64 v, .int .i64 s, .int .i64 a, .int .i64 b, .int .i64 c0, .int .i64 x, .int .i64 y, .slice A n c, .slice B p d] 46)) := (Below.refl _ _).alloc (Nat.le_refl _) _
  have x0 : (w.alloc (.cells #[.int .i64 5, .int .i64 f, .int .i64 v, .int .i64 s, .int .i64 a, .int .i64 b, .int .i64 c0, .int .i64 x, .int .i64 y, .slice A n c, .slice B p d] 46)).cell? ⟨w.heap.size, 0, none⟩ = some (.int .i64 5) := by simp
  have x1 : (w.alloc (.cells #[.int .i64 5, .int .i64 f, .int .i64 v, .int .i64 s, .int .i64 a, .int .i64 b, .int .i64 c0, .int .i64 x, .int .i64 y, .slice A n c, .slice B p d] 46)).cell? ⟨w.heap.size, 1, none⟩ = some (.int .i64 f) := by simp
  have x2 : (w.alloc (.cells #[.int .i64 5, .int .i64 f, .int .i64 v, .int .i64 s, .int .i64 a, .int .i64 b, .int .i64 c0, .int .i64 x, .int .i64 y, .slice A n c, .slice B p d] 46)).cell? ⟨w.heap.size, 2, none⟩ = some (.int .i64 v) := by simp
  have x3 : (w.alloc (.cells #[.int .i64 5, .int .i64 f, .int .i64 v, .int .i64 s, .int .i64 a, .int .i64 b, .int .i64 c0, .int .i64 x, .int .i64 y, .slice A n c, .slice B p d] 46)).cell? ⟨w.heap.size, 3, none⟩ = some (.int .i64 s) := by simp
  have x4 : (w.alloc (.cells #[.int .i64 5, .int .i64 f, .int .i64 v, .int .i64 s, .int .i64 a, .int .i64 b, .int .i64 c0, .int .i64 x, .int .i64 y, .slice A n c, .slice B p d] 46)).cell? ⟨w.heap.size, 4, none⟩ = some (.int .i64 a) := by simp
  have x5 : (w.alloc (.cells #[.int .i64 5, .int .i64 f, .int .i64 v, .int .i64 s, .int .i64 a, .int .i64 b, .int .i64 c0, .int .i64 x, .int .i64 y, .slice A n c, .slice B p d] 46)).cell? ⟨w.heap.size, 5, none⟩ = some (.int .i64 b) := by simp
  have x6 : (w.alloc (.cells #[.int .i64 5, .int .i64 f, .int .i64 v, .int .i64 s, .int .i64 a, .int .i64 b, .int .i64 c0, .int .i64 x, .int .i64 y, .slice A n c, .slice B p d] 46)).cell? ⟨w.heap.size, 6, none⟩ = some (.int .i64 c0) := by simp
  have x7 : (w.alloc (.cells #[.int .i64 5, .int .i64 f, .int .i64 v, .int .i64 s, .int .i64 a, .int .i64 b, .int .i64 c0, .int .i64 x, .int .i64 y, .slice A n c, .slice B p d] 46)).cell? ⟨w.heap.size, 7, none⟩ = some (.int .i64 x) := by simp
  have x8 : (w.alloc (.cells #[.int .i64 5, .int .i64 f, .int .i64 v, .int .i64 s, .int .i64 a, .int .i64 b, .int .i64 c0, .int .i64 x, .int .i64 y, .slice A n c, .slice B p d] 46)).cell? ⟨w.heap.size, 8, none⟩ = some (.int .i64 y) := by simp
  have x9 : (w.alloc (.cells #[.int .i64 5, .int .i64 f, .int .i64 v, .int .i64 s, .int .i64 a, .int .i64 b, .int .i64 c0, .int .i64 x, .int .i64 y, .slice A n c, .slice B p d] 46)).cell? ⟨w.heap.size, 9, none⟩ = some (.slice A n c) := by simp
  have x10 : (w.alloc (.cells #[.int .i64 5, .int .i64 f, .int .i64 v, .int .i64 s, .int .i64 a, .int .i64 b, .int .i64 c0, .int .i64 x, .int .i64 y, .slice A n c, .slice B p d] 46)).cell? ⟨w.heap.size, 10, none⟩ = some (.slice B p d) := by simp
  have hl : w.heap.size < (w.alloc (.cells #[.int .i64 5, .int .i64 f, .int .i64 v, .int .i64 s, .int .i64 a, .int .i64 b, .int .i64 c0, .int .i64 x, .int .i64 y, .slice A n c, .slice B p d] 46)).heap.size := by simp
  have e1 : inB 5 1 6 = true := by decide
  have hBM : Hid (bareM (5, f, v, s, (a, b, c0, x, y), cs, vs) = (5, f, v, 0, (0, 0, 0, 0, 0), cs, [])) := hide rfl
  have hbare := hide (fun W (h : Below w.heap.size w W) => bare5_c kd f v s a b c0 x y cs vs A B n c p d lo hi W (hc.below (flat_kept _) h hhi) (hv.below vote_kept h hhi) (Nat.le_trans hhi h.size))
  have hsame := hide (fun W (h : Below w.heap.size w W) => MsgSame_c (5, f, v, s, (a, b, c0, x, y), cs, vs) (5, f, v, 0, (0, 0, 0, 0, 0), cs, []) A B A none n c p d n c 0 0 lo hi lo hi W (hc.below (flat_kept _) h hhi) (hv.below vote_kept h hhi) (hc.below (flat_kept _) h hhi) (RdN.nil_ _ _ _ _ _ _ _ (by simp [maxLen])) (Nat.le_trans hhi h.size) (Nat.le_trans hhi h.size))
  have hclk := hide (fun W (h : Below w.heap.size w W) => claimsOk_c A n c lo hi cs W (hc.below (flat_kept _) h hhi) (Nat.le_trans hhi h.size))
  have hvok := hide (fun W (h : Below w.heap.size w W) => votesOk_c B p d lo hi vs W (hv.below vote_kept h hhi) (Nat.le_trans hhi h.size))
  cases eB : decide (((5, f, v, s, (a, b, c0, x, y), cs, vs) : MsgT) = (5, f, v, 0, (0, 0, 0, 0, 0), cs, []))
  · have eB' := hide eB
    have eB2 : Hid (decide (((5, f, v, s, (a, b, c0, x, y), cs, vs) : MsgT) = bareM (5, f, v, s, (a, b, c0, x, y), cs, vs)) = false) := hide (by rw [decide_eq_false_iff_not, hBM.out]; exact of_decide_eq_false eB)
    go_enter Tryz.func23, Tryz.ntmps23
    go_wp2
    generalize w.alloc (.cells #[.int .i64 5, .int .i64 f, .int .i64 v, .int .i64 s, .int .i64 a, .int .i64 b, .int .i64 c0, .int .i64 x, .int .i64 y, .slice A n c, .slice B p d] 46) = w1 at *
    have hB := hB.drew
    refine wp_region_T (Since _) [] [] [8] [0, 1, 2, 3, 4, 5, 6, 7, 8, 9, 10, 11, 12, 13, 14, 15, 16, 17, 18, 19, 20, 21, 22] (by kernel_rfl) (by kernel_rfl) (by kernel_rfl) (Since.drew _) ?_; simp only [pickL, List.getElem?_cons_succ, List.getElem?_cons_zero]
    go_wp2_with (first
      | ((refine no_implicit_lambda% (g4_ ?_)); intro hS) | ((refine no_implicit_lambda% (g26_ ?_)); intro K hK) | (refine no_implicit_lambda% (g1_ ?_)) | ((refine no_implicit_lambda% (g6_ ?_)); intro K hK) | (refine no_implicit_lambda% (g3_ ?_))
      | (go_at_call 31; refine (in_c _ _ _ _).mono ?_; rintro e w' ⟨rfl, rfl⟩; rw [e1])
      | (go_at_call 43; refine (hbare.out _ hB).mono ?_; rintro e w2 ⟨he, hb2⟩; obtain rfl := he.out; have hB := hB.trans (hb2.mono hB.size); have x0 := keepc hb2 x0; have x1 := keepc hb2 x1; have x2 := keepc hb2 x2; have x3 := keepc hb2 x3; have x4 := keepc hb2 x4; have x5 := keepc hb2 x5; have x6 := keepc hb2 x6; have x7 := keepc hb2 x7; have x8 := keepc hb2 x8; have x9 := keepc hb2 x9; have x10 := keepc hb2 x10; have hb2 := hb2)
      | (go_at_call 25; refine (hsame.out _ hB).mono ?_; rintro e w3 ⟨rfl, hb3⟩; rw [eB]; have hB := hB.trans (hb3.mono hB.size); have x0 := keepc hb3 x0; have x1 := keepc hb3 x1; have x2 := keepc hb3 x2; have x3 := keepc hb3 x3; have x4 := keepc hb3 x4; have x5 := keepc hb3 x5; have x6 := keepc hb3 x6; have x7 := keepc hb3 x7; have x8 := keepc hb3 x8; have x9 := keepc hb3 x9; have x10 := keepc hb3 x10; have hb3 := hb3)
      | (go_at_call 14; refine (isKeeper_c _ _).mono ?_; rintro e w' ⟨rfl, rfl⟩; rw [eK])
      | (go_at_call 37; refine (isView_c _ _).mono ?_; rintro e w' ⟨rfl, rfl⟩; rw [eV])
      | (go_at_call 44; refine (ReqOk_c _ _ _ _ _ _).mono ?_; rintro e w4 ⟨rfl, hb4⟩; have hB := hB.trans (hb4.mono hB.size))
      | (go_at_call 45; refine (isSeq_c _ _).mono ?_; rintro e w' ⟨rfl, rfl⟩)
      | (go_at_call 46; refine (okOrNull_c _ _ _ _ _ _).mono ?_; rintro e w4 ⟨rfl, hb4⟩; have hB := hB.trans (hb4.mono hB.size))
      | (go_at_call 38; refine (hclk.out _ hB).mono ?_; rintro e w4 ⟨rfl, hb4⟩; have hB := hB.trans (hb4.mono hB.size))
      | (go_at_call 47; refine (hvok.out _ hB).mono ?_; rintro e w4 ⟨rfl, hb4⟩; have hB := hB.trans (hb4.mono hB.size))
      | fail)
    all_goals
      go_ret
      refine ⟨congrArg (fun b => Ending.returned (.bool b)) ?_, hB⟩
      have g0 := eB2.out
      clear eB' eB eB2
      simp only [okMsgI, g0]
      clear g0
      simp [e1, *]
  · have eB' := hide eB
    have eB2 : Hid (decide (((5, f, v, s, (a, b, c0, x, y), cs, vs) : MsgT) = bareM (5, f, v, s, (a, b, c0, x, y), cs, vs)) = true) := hide (by rw [decide_eq_true_eq, hBM.out]; exact of_decide_eq_true eB)
    cases eK : inB f 0 3
    · have eK' := hide eK
      go_enter Tryz.func23, Tryz.ntmps23
      go_wp2
      generalize w.alloc (.cells #[.int .i64 5, .int .i64 f, .int .i64 v, .int .i64 s, .int .i64 a, .int .i64 b, .int .i64 c0, .int .i64 x, .int .i64 y, .slice A n c, .slice B p d] 46) = w1 at *
      have hB := hB.drew
      refine wp_region_T (Since _) [] [] [8] [0, 1, 2, 3, 4, 5, 6, 7, 8, 9, 10, 11, 12, 13, 14, 15, 16, 17, 18, 19, 20, 21, 22] (by kernel_rfl) (by kernel_rfl) (by kernel_rfl) (Since.drew _) ?_; simp only [pickL, List.getElem?_cons_succ, List.getElem?_cons_zero]
      go_wp2_with (first
        | ((refine no_implicit_lambda% (g4_ ?_)); intro hS) | ((refine no_implicit_lambda% (g26_ ?_)); intro K hK) | (refine no_implicit_lambda% (g1_ ?_)) | ((refine no_implicit_lambda% (g6_ ?_)); intro K hK) | (refine no_implicit_lambda% (g3_ ?_))
        | (go_at_call 31; refine (in_c _ _ _ _).mono ?_; rintro e w' ⟨rfl, rfl⟩; rw [e1])
        | (go_at_call 43; refine (hbare.out _ hB).mono ?_; rintro e w2 ⟨he, hb2⟩; obtain rfl := he.out; have hB := hB.trans (hb2.mono hB.size); have x0 := keepc hb2 x0; have x1 := keepc hb2 x1; have x2 := keepc hb2 x2; have x3 := keepc hb2 x3; have x4 := keepc hb2 x4; have x5 := keepc hb2 x5; have x6 := keepc hb2 x6; have x7 := keepc hb2 x7; have x8 := keepc hb2 x8; have x9 := keepc hb2 x9; have x10 := keepc hb2 x10; have hb2 := hb2)
        | (go_at_call 25; refine (hsame.out _ hB).mono ?_; rintro e w3 ⟨rfl, hb3⟩; rw [eB]; have hB := hB.trans (hb3.mono hB.size); have x0 := keepc hb3 x0; have x1 := keepc hb3 x1; have x2 := keepc hb3 x2; have x3 := keepc hb3 x3; have x4 := keepc hb3 x4; have x5 := keepc hb3 x5; have x6 := keepc hb3 x6; have x7 := keepc hb3 x7; have x8 := keepc hb3 x8; have x9 := keepc hb3 x9; have x10 := keepc hb3 x10; have hb3 := hb3)
        | (go_at_call 14; refine (isKeeper_c _ _).mono ?_; rintro e w' ⟨rfl, rfl⟩; rw [eK])
        | (go_at_call 37; refine (isView_c _ _).mono ?_; rintro e w' ⟨rfl, rfl⟩; rw [eV])
        | (go_at_call 44; refine (ReqOk_c _ _ _ _ _ _).mono ?_; rintro e w4 ⟨rfl, hb4⟩; have hB := hB.trans (hb4.mono hB.size))
        | (go_at_call 45; refine (isSeq_c _ _).mono ?_; rintro e w' ⟨rfl, rfl⟩)
        | (go_at_call 46; refine (okOrNull_c _ _ _ _ _ _).mono ?_; rintro e w4 ⟨rfl, hb4⟩; have hB := hB.trans (hb4.mono hB.size))
        | (go_at_call 38; refine (hclk.out _ hB).mono ?_; rintro e w4 ⟨rfl, hb4⟩; have hB := hB.trans (hb4.mono hB.size))
        | (go_at_call 47; refine (hvok.out _ hB).mono ?_; rintro e w4 ⟨rfl, hb4⟩; have hB := hB.trans (hb4.mono hB.size))
        | fail)
      all_goals
        go_ret
        refine ⟨congrArg (fun b => Ending.returned (.bool b)) ?_, hB⟩
        have g0 := eB2.out
        have eK' := eK'.out
        clear eB' eB eB2
        simp only [okMsgI, g0]
        clear g0
        simp [e1, *]
    · have eK' := hide eK
      cases eV : inB v 0 6
      · have eV' := hide eV
        go_enter Tryz.func23, Tryz.ntmps23
        go_wp2
        generalize w.alloc (.cells #[.int .i64 5, .int .i64 f, .int .i64 v, .int .i64 s, .int .i64 a, .int .i64 b, .int .i64 c0, .int .i64 x, .int .i64 y, .slice A n c, .slice B p d] 46) = w1 at *
        have hB := hB.drew
        refine wp_region_T (Since _) [] [] [8] [0, 1, 2, 3, 4, 5, 6, 7, 8, 9, 10, 11, 12, 13, 14, 15, 16, 17, 18, 19, 20, 21, 22] (by kernel_rfl) (by kernel_rfl) (by kernel_rfl) (Since.drew _) ?_; simp only [pickL, List.getElem?_cons_succ, List.getElem?_cons_zero]
        go_wp2_with (first
          | ((refine no_implicit_lambda% (g4_ ?_)); intro hS) | ((refine no_implicit_lambda% (g26_ ?_)); intro K hK) | (refine no_implicit_lambda% (g1_ ?_)) | ((refine no_implicit_lambda% (g6_ ?_)); intro K hK) | (refine no_implicit_lambda% (g3_ ?_))
          | (go_at_call 31; refine (in_c _ _ _ _).mono ?_; rintro e w' ⟨rfl, rfl⟩; rw [e1])
          | (go_at_call 43; refine (hbare.out _ hB).mono ?_; rintro e w2 ⟨he, hb2⟩; obtain rfl := he.out; have hB := hB.trans (hb2.mono hB.size); have x0 := keepc hb2 x0; have x1 := keepc hb2 x1; have x2 := keepc hb2 x2; have x3 := keepc hb2 x3; have x4 := keepc hb2 x4; have x5 := keepc hb2 x5; have x6 := keepc hb2 x6; have x7 := keepc hb2 x7; have x8 := keepc hb2 x8; have x9 := keepc hb2 x9; have x10 := keepc hb2 x10; have hb2 := hb2)
          | (go_at_call 25; refine (hsame.out _ hB).mono ?_; rintro e w3 ⟨rfl, hb3⟩; rw [eB]; have hB := hB.trans (hb3.mono hB.size); have x0 := keepc hb3 x0; have x1 := keepc hb3 x1; have x2 := keepc hb3 x2; have x3 := keepc hb3 x3; have x4 := keepc hb3 x4; have x5 := keepc hb3 x5; have x6 := keepc hb3 x6; have x7 := keepc hb3 x7; have x8 := keepc hb3 x8; have x9 := keepc hb3 x9; have x10 := keepc hb3 x10; have hb3 := hb3)
          | (go_at_call 14; refine (isKeeper_c _ _).mono ?_; rintro e w' ⟨rfl, rfl⟩; rw [eK])
          | (go_at_call 37; refine (isView_c _ _).mono ?_; rintro e w' ⟨rfl, rfl⟩; rw [eV])
          | (go_at_call 44; refine (ReqOk_c _ _ _ _ _ _).mono ?_; rintro e w4 ⟨rfl, hb4⟩; have hB := hB.trans (hb4.mono hB.size))
          | (go_at_call 45; refine (isSeq_c _ _).mono ?_; rintro e w' ⟨rfl, rfl⟩)
          | (go_at_call 46; refine (okOrNull_c _ _ _ _ _ _).mono ?_; rintro e w4 ⟨rfl, hb4⟩; have hB := hB.trans (hb4.mono hB.size))
          | (go_at_call 38; refine (hclk.out _ hB).mono ?_; rintro e w4 ⟨rfl, hb4⟩; have hB := hB.trans (hb4.mono hB.size))
          | (go_at_call 47; refine (hvok.out _ hB).mono ?_; rintro e w4 ⟨rfl, hb4⟩; have hB := hB.trans (hb4.mono hB.size))
          | fail)
        all_goals
          go_ret
          refine ⟨congrArg (fun b => Ending.returned (.bool b)) ?_, hB⟩
          have g0 := eB2.out
          have eK' := eK'.out
          have eV' := eV'.out
          clear eB' eB eB2
          simp only [okMsgI, g0]
          clear g0
          simp [e1, *]
      · have eV' := hide eV
        go_enter Tryz.func23, Tryz.ntmps23
        go_wp2
        generalize w.alloc (.cells #[.int .i64 5, .int .i64 f, .int .i64 v, .int .i64 s, .int .i64 a, .int .i64 b, .int .i64 c0, .int .i64 x, .int .i64 y, .slice A n c, .slice B p d] 46) = w1 at *
        have hB := hB.drew
        refine wp_region_T (Since _) [] [] [8] [0, 1, 2, 3, 4, 5, 6, 7, 8, 9, 10, 11, 12, 13, 14, 15, 16, 17, 18, 19, 20, 21, 22] (by kernel_rfl) (by kernel_rfl) (by kernel_rfl) (Since.drew _) ?_; simp only [pickL, List.getElem?_cons_succ, List.getElem?_cons_zero]
        go_wp2_with (first
          | ((refine no_implicit_lambda% (g4_ ?_)); intro hS) | ((refine no_implicit_lambda% (g26_ ?_)); intro K hK) | (refine no_implicit_lambda% (g1_ ?_)) | ((refine no_implicit_lambda% (g6_ ?_)); intro K hK) | (refine no_implicit_lambda% (g3_ ?_))
          | (go_at_call 31; refine (in_c _ _ _ _).mono ?_; rintro e w' ⟨rfl, rfl⟩; rw [e1])
          | (go_at_call 43; refine (hbare.out _ hB).mono ?_; rintro e w2 ⟨he, hb2⟩; obtain rfl := he.out; have hB := hB.trans (hb2.mono hB.size); have x0 := keepc hb2 x0; have x1 := keepc hb2 x1; have x2 := keepc hb2 x2; have x3 := keepc hb2 x3; have x4 := keepc hb2 x4; have x5 := keepc hb2 x5; have x6 := keepc hb2 x6; have x7 := keepc hb2 x7; have x8 := keepc hb2 x8; have x9 := keepc hb2 x9; have x10 := keepc hb2 x10; have hb2 := hb2)
          | (go_at_call 25; refine (hsame.out _ hB).mono ?_; rintro e w3 ⟨rfl, hb3⟩; rw [eB]; have hB := hB.trans (hb3.mono hB.size); have x0 := keepc hb3 x0; have x1 := keepc hb3 x1; have x2 := keepc hb3 x2; have x3 := keepc hb3 x3; have x4 := keepc hb3 x4; have x5 := keepc hb3 x5; have x6 := keepc hb3 x6; have x7 := keepc hb3 x7; have x8 := keepc hb3 x8; have x9 := keepc hb3 x9; have x10 := keepc hb3 x10; have hb3 := hb3)
          | (go_at_call 14; refine (isKeeper_c _ _).mono ?_; rintro e w' ⟨rfl, rfl⟩; rw [eK])
          | (go_at_call 37; refine (isView_c _ _).mono ?_; rintro e w' ⟨rfl, rfl⟩; rw [eV])
          | (go_at_call 44; refine (ReqOk_c _ _ _ _ _ _).mono ?_; rintro e w4 ⟨rfl, hb4⟩; have hB := hB.trans (hb4.mono hB.size))
          | (go_at_call 45; refine (isSeq_c _ _).mono ?_; rintro e w' ⟨rfl, rfl⟩)
          | (go_at_call 46; refine (okOrNull_c _ _ _ _ _ _).mono ?_; rintro e w4 ⟨rfl, hb4⟩; have hB := hB.trans (hb4.mono hB.size))
          | (go_at_call 38; refine (hclk.out _ hB).mono ?_; rintro e w4 ⟨rfl, hb4⟩; have hB := hB.trans (hb4.mono hB.size))
          | (go_at_call 47; refine (hvok.out _ hB).mono ?_; rintro e w4 ⟨rfl, hb4⟩; have hB := hB.trans (hb4.mono hB.size))
          | fail)
        all_goals
          go_ret
          refine ⟨congrArg (fun b => Ending.returned (.bool b)) ?_, hB⟩
          have g0 := eB2.out
          have eK' := eK'.out
          have eV' := eV'.out
          clear eB' eB eB2
          simp only [okMsgI, g0]
          clear g0
          simp [e1, *]
set_option maxRecDepth 100000 in
set_option maxHeartbeats 4000000 in
theorem MsgOk6_c (kd f v s a b c0 x y : Int) (cs : List ClaimT) (vs : List VoteT) (A B : Option Addr) (n c p d lo hi : Nat) (w : World) (hc : RdN 7 clR w lo hi A n c cs) (hv : RdN 2 voteR w lo hi B p d vs) (hhi : hi ≤ w.heap.size) :
    Calls Tryz.prog 23 #[.agg #[.int .i64 6, .int .i64 f, .int .i64 v, .int .i64 s, .int .i64 a, .int .i64 b, .int .i64 c0, .int .i64 x, .int .i64 y, .slice A n c, .slice B p d]] w fun e w' => e = .returned (.bool (okMsgI (6, f, v, s, (a, b, c0, x, y), cs, vs))) ∧ Below w.heap.size w w' := by
  have hB : Below w.heap.size w (w.alloc (.cells #[.int .i64 6, .int .i64 f, .int .i64 v, .int .i64 s, .int .i64 a, .int .i64 b, .int .i64 c0, .int .i64 x, .int .i64 y, .slice A n c, .slice B p d] 46)) := (Below.refl _ _).alloc (Nat.le_refl _) _
  have x0 : (w.alloc (.cells #[.int .i64 6, .int .i64 f, .int .i64 v, .int .i64 s, .int .i64 a, .int .i64 b, .int .i64 c0, .int .i64 x, .int .i64 y, .slice A n c, .slice B p d] 46)).cell? ⟨w.heap.size, 0, none⟩ = some (.int .i64 6) := by simp
  have x1 : (w.alloc (.cells #[.int .i64 6, .int .i64 f, .int .i64 v, .int .i64 s, .int .i64 a, .int .i64 b, .int .i64 c0, .int .i64 x, .int .i64 y, .slice A n c, .slice B p d] 46)).cell? ⟨w.heap.size, 1, none⟩ = some (.int .i64 f) := by simp
  have x2 : (w.alloc (.cells #[.int .i64 6, .int .i64 f, .int .i64 v, .int .i64 s, .int .i64 a, .int .i64 b, .int .i64 c0, .int .i64 x, .int .i64 y, .slice A n c, .slice B p d] 46)).cell? ⟨w.heap.size, 2, none⟩ = some (.int .i64 v) := by simp
  have x3 : (w.alloc (.cells #[.int .i64 6, .int .i64 f, .int .i64 v, .int .i64 s, .int .i64 a, .int .i64 b, .int .i64 c0, .int .i64 x, .int .i64 y, .slice A n c, .slice B p d] 46)).cell? ⟨w.heap.size, 3, none⟩ = some (.int .i64 s) := by simp
  have x4 : (w.alloc (.cells #[.int .i64 6, .int .i64 f, .int .i64 v, .int .i64 s, .int .i64 a, .int .i64 b, .int .i64 c0, .int .i64 x, .int .i64 y, .slice A n c, .slice B p d] 46)).cell? ⟨w.heap.size, 4, none⟩ = some (.int .i64 a) := by simp
  have x5 : (w.alloc (.cells #[.int .i64 6, .int .i64 f, .int .i64 v, .int .i64 s, .int .i64 a, .int .i64 b, .int .i64 c0, .int .i64 x, .int .i64 y, .slice A n c, .slice B p d] 46)).cell? ⟨w.heap.size, 5, none⟩ = some (.int .i64 b) := by simp
  have x6 : (w.alloc (.cells #[.int .i64 6, .int .i64 f, .int .i64 v, .int .i64 s, .int .i64 a, .int .i64 b, .int .i64 c0, .int .i64 x, .int .i64 y, .slice A n c, .slice B p d] 46)).cell? ⟨w.heap.size, 6, none⟩ = some (.int .i64 c0) := by simp
  have x7 : (w.alloc (.cells #[.int .i64 6, .int .i64 f, .int .i64 v, .int .i64 s, .int .i64 a, .int .i64 b, .int .i64 c0, .int .i64 x, .int .i64 y, .slice A n c, .slice B p d] 46)).cell? ⟨w.heap.size, 7, none⟩ = some (.int .i64 x) := by simp
  have x8 : (w.alloc (.cells #[.int .i64 6, .int .i64 f, .int .i64 v, .int .i64 s, .int .i64 a, .int .i64 b, .int .i64 c0, .int .i64 x, .int .i64 y, .slice A n c, .slice B p d] 46)).cell? ⟨w.heap.size, 8, none⟩ = some (.int .i64 y) := by simp
  have x9 : (w.alloc (.cells #[.int .i64 6, .int .i64 f, .int .i64 v, .int .i64 s, .int .i64 a, .int .i64 b, .int .i64 c0, .int .i64 x, .int .i64 y, .slice A n c, .slice B p d] 46)).cell? ⟨w.heap.size, 9, none⟩ = some (.slice A n c) := by simp
  have x10 : (w.alloc (.cells #[.int .i64 6, .int .i64 f, .int .i64 v, .int .i64 s, .int .i64 a, .int .i64 b, .int .i64 c0, .int .i64 x, .int .i64 y, .slice A n c, .slice B p d] 46)).cell? ⟨w.heap.size, 10, none⟩ = some (.slice B p d) := by simp
  have hl : w.heap.size < (w.alloc (.cells #[.int .i64 6, .int .i64 f, .int .i64 v, .int .i64 s, .int .i64 a, .int .i64 b, .int .i64 c0, .int .i64 x, .int .i64 y, .slice A n c, .slice B p d] 46)).heap.size := by simp
  have e1 : inB 6 1 6 = true := by decide
  have hBM : Hid (bareM (6, f, v, s, (a, b, c0, x, y), cs, vs) = (6, f, v, 0, (0, 0, 0, 0, 0), [], vs)) := hide rfl
  have hbare := hide (fun W (h : Below w.heap.size w W) => bare6_c kd f v s a b c0 x y cs vs A B n c p d lo hi W (hc.below (flat_kept _) h hhi) (hv.below vote_kept h hhi) (Nat.le_trans hhi h.size))
  have hsame := hide (fun W (h : Below w.heap.size w W) => MsgSame_c (6, f, v, s, (a, b, c0, x, y), cs, vs) (6, f, v, 0, (0, 0, 0, 0, 0), [], vs) A B none B n c p d 0 0 p d lo hi lo hi W (hc.below (flat_kept _) h hhi) (hv.below vote_kept h hhi) (RdN.nil_ _ _ _ _ _ _ _ (by simp [maxLen])) (hv.below vote_kept h hhi) (Nat.le_trans hhi h.size) (Nat.le_trans hhi h.size))
  have hclk := hide (fun W (h : Below w.heap.size w W) => claimsOk_c A n c lo hi cs W (hc.below (flat_kept _) h hhi) (Nat.le_trans hhi h.size))
  have hvok := hide (fun W (h : Below w.heap.size w W) => votesOk_c B p d lo hi vs W (hv.below vote_kept h hhi) (Nat.le_trans hhi h.size))
  cases eB : decide (((6, f, v, s, (a, b, c0, x, y), cs, vs) : MsgT) = (6, f, v, 0, (0, 0, 0, 0, 0), [], vs))
  · have eB' := hide eB
    have eB2 : Hid (decide (((6, f, v, s, (a, b, c0, x, y), cs, vs) : MsgT) = bareM (6, f, v, s, (a, b, c0, x, y), cs, vs)) = false) := hide (by rw [decide_eq_false_iff_not, hBM.out]; exact of_decide_eq_false eB)
    go_enter Tryz.func23, Tryz.ntmps23
    go_wp2
    generalize w.alloc (.cells #[.int .i64 6, .int .i64 f, .int .i64 v, .int .i64 s, .int .i64 a, .int .i64 b, .int .i64 c0, .int .i64 x, .int .i64 y, .slice A n c, .slice B p d] 46) = w1 at *
    have hB := hB.drew
    refine wp_region_T (Since _) [] [] [8] [0, 1, 2, 3, 4, 5, 6, 7, 8, 9, 10, 11, 12, 13, 14, 15, 16, 17, 18, 19, 20, 21, 22] (by kernel_rfl) (by kernel_rfl) (by kernel_rfl) (Since.drew _) ?_; simp only [pickL, List.getElem?_cons_succ, List.getElem?_cons_zero]
    go_wp2_with (first
      | ((refine no_implicit_lambda% (g4_ ?_)); intro hS) | ((refine no_implicit_lambda% (g26_ ?_)); intro K hK) | (refine no_implicit_lambda% (g1_ ?_)) | ((refine no_implicit_lambda% (g6_ ?_)); intro K hK) | (refine no_implicit_lambda% (g3_ ?_))
      | (go_at_call 31; refine (in_c _ _ _ _).mono ?_; rintro e w' ⟨rfl, rfl⟩; rw [e1])
      | (go_at_call 43; refine (hbare.out _ hB).mono ?_; rintro e w2 ⟨he, hb2⟩; obtain rfl := he.out; have hB := hB.trans (hb2.mono hB.size); have x0 := keepc hb2 x0; have x1 := keepc hb2 x1; have x2 := keepc hb2 x2; have x3 := keepc hb2 x3; have x4 := keepc hb2 x4; have x5 := keepc hb2 x5; have x6 := keepc hb2 x6; have x7 := keepc hb2 x7; have x8 := keepc hb2 x8; have x9 := keepc hb2 x9; have x10 := keepc hb2 x10; have hb2 := hb2)
      | (go_at_call 25; refine (hsame.out _ hB).mono ?_; rintro e w3 ⟨rfl, hb3⟩; rw [eB]; have hB := hB.trans (hb3.mono hB.size); have x0 := keepc hb3 x0; have x1 := keepc hb3 x1; have x2 := keepc hb3 x2; have x3 := keepc hb3 x3; have x4 := keepc hb3 x4; have x5 := keepc hb3 x5; have x6 := keepc hb3 x6; have x7 := keepc hb3 x7; have x8 := keepc hb3 x8; have x9 := keepc hb3 x9; have x10 := keepc hb3 x10; have hb3 := hb3)
      | (go_at_call 14; refine (isKeeper_c _ _).mono ?_; rintro e w' ⟨rfl, rfl⟩; rw [eK])
      | (go_at_call 37; refine (isView_c _ _).mono ?_; rintro e w' ⟨rfl, rfl⟩; rw [eV])
      | (go_at_call 44; refine (ReqOk_c _ _ _ _ _ _).mono ?_; rintro e w4 ⟨rfl, hb4⟩; have hB := hB.trans (hb4.mono hB.size))
      | (go_at_call 45; refine (isSeq_c _ _).mono ?_; rintro e w' ⟨rfl, rfl⟩)
      | (go_at_call 46; refine (okOrNull_c _ _ _ _ _ _).mono ?_; rintro e w4 ⟨rfl, hb4⟩; have hB := hB.trans (hb4.mono hB.size))
      | (go_at_call 38; refine (hclk.out _ hB).mono ?_; rintro e w4 ⟨rfl, hb4⟩; have hB := hB.trans (hb4.mono hB.size))
      | (go_at_call 47; refine (hvok.out _ hB).mono ?_; rintro e w4 ⟨rfl, hb4⟩; have hB := hB.trans (hb4.mono hB.size))
      | fail)
    all_goals
      go_ret
      refine ⟨congrArg (fun b => Ending.returned (.bool b)) ?_, hB⟩
      have g0 := eB2.out
      clear eB' eB eB2
      simp only [okMsgI, g0]
      clear g0
      simp [e1, *]
  · have eB' := hide eB
    have eB2 : Hid (decide (((6, f, v, s, (a, b, c0, x, y), cs, vs) : MsgT) = bareM (6, f, v, s, (a, b, c0, x, y), cs, vs)) = true) := hide (by rw [decide_eq_true_eq, hBM.out]; exact of_decide_eq_true eB)
    cases eK : inB f 0 3
    · have eK' := hide eK
      go_enter Tryz.func23, Tryz.ntmps23
      go_wp2
      generalize w.alloc (.cells #[.int .i64 6, .int .i64 f, .int .i64 v, .int .i64 s, .int .i64 a, .int .i64 b, .int .i64 c0, .int .i64 x, .int .i64 y, .slice A n c, .slice B p d] 46) = w1 at *
      have hB := hB.drew
      refine wp_region_T (Since _) [] [] [8] [0, 1, 2, 3, 4, 5, 6, 7, 8, 9, 10, 11, 12, 13, 14, 15, 16, 17, 18, 19, 20, 21, 22] (by kernel_rfl) (by kernel_rfl) (by kernel_rfl) (Since.drew _) ?_; simp only [pickL, List.getElem?_cons_succ, List.getElem?_cons_zero]
      go_wp2_with (first
        | ((refine no_implicit_lambda% (g4_ ?_)); intro hS) | ((refine no_implicit_lambda% (g26_ ?_)); intro K hK) | (refine no_implicit_lambda% (g1_ ?_)) | ((refine no_implicit_lambda% (g6_ ?_)); intro K hK) | (refine no_implicit_lambda% (g3_ ?_))
        | (go_at_call 31; refine (in_c _ _ _ _).mono ?_; rintro e w' ⟨rfl, rfl⟩; rw [e1])
        | (go_at_call 43; refine (hbare.out _ hB).mono ?_; rintro e w2 ⟨he, hb2⟩; obtain rfl := he.out; have hB := hB.trans (hb2.mono hB.size); have x0 := keepc hb2 x0; have x1 := keepc hb2 x1; have x2 := keepc hb2 x2; have x3 := keepc hb2 x3; have x4 := keepc hb2 x4; have x5 := keepc hb2 x5; have x6 := keepc hb2 x6; have x7 := keepc hb2 x7; have x8 := keepc hb2 x8; have x9 := keepc hb2 x9; have x10 := keepc hb2 x10; have hb2 := hb2)
        | (go_at_call 25; refine (hsame.out _ hB).mono ?_; rintro e w3 ⟨rfl, hb3⟩; rw [eB]; have hB := hB.trans (hb3.mono hB.size); have x0 := keepc hb3 x0; have x1 := keepc hb3 x1; have x2 := keepc hb3 x2; have x3 := keepc hb3 x3; have x4 := keepc hb3 x4; have x5 := keepc hb3 x5; have x6 := keepc hb3 x6; have x7 := keepc hb3 x7; have x8 := keepc hb3 x8; have x9 := keepc hb3 x9; have x10 := keepc hb3 x10; have hb3 := hb3)
        | (go_at_call 14; refine (isKeeper_c _ _).mono ?_; rintro e w' ⟨rfl, rfl⟩; rw [eK])
        | (go_at_call 37; refine (isView_c _ _).mono ?_; rintro e w' ⟨rfl, rfl⟩; rw [eV])
        | (go_at_call 44; refine (ReqOk_c _ _ _ _ _ _).mono ?_; rintro e w4 ⟨rfl, hb4⟩; have hB := hB.trans (hb4.mono hB.size))
        | (go_at_call 45; refine (isSeq_c _ _).mono ?_; rintro e w' ⟨rfl, rfl⟩)
        | (go_at_call 46; refine (okOrNull_c _ _ _ _ _ _).mono ?_; rintro e w4 ⟨rfl, hb4⟩; have hB := hB.trans (hb4.mono hB.size))
        | (go_at_call 38; refine (hclk.out _ hB).mono ?_; rintro e w4 ⟨rfl, hb4⟩; have hB := hB.trans (hb4.mono hB.size))
        | (go_at_call 47; refine (hvok.out _ hB).mono ?_; rintro e w4 ⟨rfl, hb4⟩; have hB := hB.trans (hb4.mono hB.size))
        | fail)
      all_goals
        go_ret
        refine ⟨congrArg (fun b => Ending.returned (.bool b)) ?_, hB⟩
        have g0 := eB2.out
        have eK' := eK'.out
        clear eB' eB eB2
        simp only [okMsgI, g0]
        clear g0
        simp [e1, *]
    · have eK' := hide eK
      cases eV : inB v 0 6
      · have eV' := hide eV
        go_enter Tryz.func23, Tryz.ntmps23
        go_wp2
        generalize w.alloc (.cells #[.int .i64 6, .int .i64 f, .int .i64 v, .int .i64 s, .int .i64 a, .int .i64 b, .int .i64 c0, .int .i64 x, .int .i64 y, .slice A n c, .slice B p d] 46) = w1 at *
        have hB := hB.drew
        refine wp_region_T (Since _) [] [] [8] [0, 1, 2, 3, 4, 5, 6, 7, 8, 9, 10, 11, 12, 13, 14, 15, 16, 17, 18, 19, 20, 21, 22] (by kernel_rfl) (by kernel_rfl) (by kernel_rfl) (Since.drew _) ?_; simp only [pickL, List.getElem?_cons_succ, List.getElem?_cons_zero]
        go_wp2_with (first
          | ((refine no_implicit_lambda% (g4_ ?_)); intro hS) | ((refine no_implicit_lambda% (g26_ ?_)); intro K hK) | (refine no_implicit_lambda% (g1_ ?_)) | ((refine no_implicit_lambda% (g6_ ?_)); intro K hK) | (refine no_implicit_lambda% (g3_ ?_))
          | (go_at_call 31; refine (in_c _ _ _ _).mono ?_; rintro e w' ⟨rfl, rfl⟩; rw [e1])
          | (go_at_call 43; refine (hbare.out _ hB).mono ?_; rintro e w2 ⟨he, hb2⟩; obtain rfl := he.out; have hB := hB.trans (hb2.mono hB.size); have x0 := keepc hb2 x0; have x1 := keepc hb2 x1; have x2 := keepc hb2 x2; have x3 := keepc hb2 x3; have x4 := keepc hb2 x4; have x5 := keepc hb2 x5; have x6 := keepc hb2 x6; have x7 := keepc hb2 x7; have x8 := keepc hb2 x8; have x9 := keepc hb2 x9; have x10 := keepc hb2 x10; have hb2 := hb2)
          | (go_at_call 25; refine (hsame.out _ hB).mono ?_; rintro e w3 ⟨rfl, hb3⟩; rw [eB]; have hB := hB.trans (hb3.mono hB.size); have x0 := keepc hb3 x0; have x1 := keepc hb3 x1; have x2 := keepc hb3 x2; have x3 := keepc hb3 x3; have x4 := keepc hb3 x4; have x5 := keepc hb3 x5; have x6 := keepc hb3 x6; have x7 := keepc hb3 x7; have x8 := keepc hb3 x8; have x9 := keepc hb3 x9; have x10 := keepc hb3 x10; have hb3 := hb3)
          | (go_at_call 14; refine (isKeeper_c _ _).mono ?_; rintro e w' ⟨rfl, rfl⟩; rw [eK])
          | (go_at_call 37; refine (isView_c _ _).mono ?_; rintro e w' ⟨rfl, rfl⟩; rw [eV])
          | (go_at_call 44; refine (ReqOk_c _ _ _ _ _ _).mono ?_; rintro e w4 ⟨rfl, hb4⟩; have hB := hB.trans (hb4.mono hB.size))
          | (go_at_call 45; refine (isSeq_c _ _).mono ?_; rintro e w' ⟨rfl, rfl⟩)
          | (go_at_call 46; refine (okOrNull_c _ _ _ _ _ _).mono ?_; rintro e w4 ⟨rfl, hb4⟩; have hB := hB.trans (hb4.mono hB.size))
          | (go_at_call 38; refine (hclk.out _ hB).mono ?_; rintro e w4 ⟨rfl, hb4⟩; have hB := hB.trans (hb4.mono hB.size))
          | (go_at_call 47; refine (hvok.out _ hB).mono ?_; rintro e w4 ⟨rfl, hb4⟩; have hB := hB.trans (hb4.mono hB.size))
          | fail)
        all_goals
          go_ret
          refine ⟨congrArg (fun b => Ending.returned (.bool b)) ?_, hB⟩
          have g0 := eB2.out
          have eK' := eK'.out
          have eV' := eV'.out
          clear eB' eB eB2
          simp only [okMsgI, g0]
          clear g0
          simp [e1, *]
      · have eV' := hide eV
        go_enter Tryz.func23, Tryz.ntmps23
        go_wp2
        generalize w.alloc (.cells #[.int .i64 6, .int .i64 f, .int .i64 v, .int .i64 s, .int .i64 a, .int .i64 b, .int .i64 c0, .int .i64 x, .int .i64 y, .slice A n c, .slice B p d] 46) = w1 at *
        have hB := hB.drew
        refine wp_region_T (Since _) [] [] [8] [0, 1, 2, 3, 4, 5, 6, 7, 8, 9, 10, 11, 12, 13, 14, 15, 16, 17, 18, 19, 20, 21, 22] (by kernel_rfl) (by kernel_rfl) (by kernel_rfl) (Since.drew _) ?_; simp only [pickL, List.getElem?_cons_succ, List.getElem?_cons_zero]
        go_wp2_with (first
          | ((refine no_implicit_lambda% (g4_ ?_)); intro hS) | ((refine no_implicit_lambda% (g26_ ?_)); intro K hK) | (refine no_implicit_lambda% (g1_ ?_)) | ((refine no_implicit_lambda% (g6_ ?_)); intro K hK) | (refine no_implicit_lambda% (g3_ ?_))
          | (go_at_call 31; refine (in_c _ _ _ _).mono ?_; rintro e w' ⟨rfl, rfl⟩; rw [e1])
          | (go_at_call 43; refine (hbare.out _ hB).mono ?_; rintro e w2 ⟨he, hb2⟩; obtain rfl := he.out; have hB := hB.trans (hb2.mono hB.size); have x0 := keepc hb2 x0; have x1 := keepc hb2 x1; have x2 := keepc hb2 x2; have x3 := keepc hb2 x3; have x4 := keepc hb2 x4; have x5 := keepc hb2 x5; have x6 := keepc hb2 x6; have x7 := keepc hb2 x7; have x8 := keepc hb2 x8; have x9 := keepc hb2 x9; have x10 := keepc hb2 x10; have hb2 := hb2)
          | (go_at_call 25; refine (hsame.out _ hB).mono ?_; rintro e w3 ⟨rfl, hb3⟩; rw [eB]; have hB := hB.trans (hb3.mono hB.size); have x0 := keepc hb3 x0; have x1 := keepc hb3 x1; have x2 := keepc hb3 x2; have x3 := keepc hb3 x3; have x4 := keepc hb3 x4; have x5 := keepc hb3 x5; have x6 := keepc hb3 x6; have x7 := keepc hb3 x7; have x8 := keepc hb3 x8; have x9 := keepc hb3 x9; have x10 := keepc hb3 x10; have hb3 := hb3)
          | (go_at_call 14; refine (isKeeper_c _ _).mono ?_; rintro e w' ⟨rfl, rfl⟩; rw [eK])
          | (go_at_call 37; refine (isView_c _ _).mono ?_; rintro e w' ⟨rfl, rfl⟩; rw [eV])
          | (go_at_call 44; refine (ReqOk_c _ _ _ _ _ _).mono ?_; rintro e w4 ⟨rfl, hb4⟩; have hB := hB.trans (hb4.mono hB.size))
          | (go_at_call 45; refine (isSeq_c _ _).mono ?_; rintro e w' ⟨rfl, rfl⟩)
          | (go_at_call 46; refine (okOrNull_c _ _ _ _ _ _).mono ?_; rintro e w4 ⟨rfl, hb4⟩; have hB := hB.trans (hb4.mono hB.size))
          | (go_at_call 38; refine (hclk.out _ hB).mono ?_; rintro e w4 ⟨rfl, hb4⟩; have hB := hB.trans (hb4.mono hB.size))
          | (go_at_call 47; refine (hvok.out _ hB).mono ?_; rintro e w4 ⟨rfl, hb4⟩; have hB := hB.trans (hb4.mono hB.size))
          | fail)
        all_goals
          go_ret
          refine ⟨congrArg (fun b => Ending.returned (.bool b)) ?_, hB⟩
          have g0 := eB2.out
          have eK' := eK'.out
          have eV' := eV'.out
          clear eB' eB eB2
          simp only [okMsgI, g0]
          clear g0
          simp [e1, *]
set_option maxRecDepth 100000 in
set_option maxHeartbeats 4000000 in
theorem MsgOkX_c (kd f v s a b c0 x y : Int) (cs : List ClaimT) (vs : List VoteT) (A B : Option Addr) (n c p d lo hi : Nat) (w : World) (hc : RdN 7 clR w lo hi A n c cs) (hv : RdN 2 voteR w lo hi B p d vs) (hhi : hi ≤ w.heap.size) (hk : inB kd 1 6 = false) :
    Calls Tryz.prog 23 #[.agg #[.int .i64 kd, .int .i64 f, .int .i64 v, .int .i64 s, .int .i64 a, .int .i64 b, .int .i64 c0, .int .i64 x, .int .i64 y, .slice A n c, .slice B p d]] w fun e w' => e = .returned (.bool (okMsgI (kd, f, v, s, (a, b, c0, x, y), cs, vs))) ∧ Below w.heap.size w w' := by
  have hB : Below w.heap.size w (w.alloc (.cells #[.int .i64 kd, .int .i64 f, .int .i64 v, .int .i64 s, .int .i64 a, .int .i64 b, .int .i64 c0, .int .i64 x, .int .i64 y, .slice A n c, .slice B p d] 46)) := (Below.refl _ _).alloc (Nat.le_refl _) _
  have x0 : (w.alloc (.cells #[.int .i64 kd, .int .i64 f, .int .i64 v, .int .i64 s, .int .i64 a, .int .i64 b, .int .i64 c0, .int .i64 x, .int .i64 y, .slice A n c, .slice B p d] 46)).cell? ⟨w.heap.size, 0, none⟩ = some (.int .i64 kd) := by simp
  have x1 : (w.alloc (.cells #[.int .i64 kd, .int .i64 f, .int .i64 v, .int .i64 s, .int .i64 a, .int .i64 b, .int .i64 c0, .int .i64 x, .int .i64 y, .slice A n c, .slice B p d] 46)).cell? ⟨w.heap.size, 1, none⟩ = some (.int .i64 f) := by simp
  have x2 : (w.alloc (.cells #[.int .i64 kd, .int .i64 f, .int .i64 v, .int .i64 s, .int .i64 a, .int .i64 b, .int .i64 c0, .int .i64 x, .int .i64 y, .slice A n c, .slice B p d] 46)).cell? ⟨w.heap.size, 2, none⟩ = some (.int .i64 v) := by simp
  have x3 : (w.alloc (.cells #[.int .i64 kd, .int .i64 f, .int .i64 v, .int .i64 s, .int .i64 a, .int .i64 b, .int .i64 c0, .int .i64 x, .int .i64 y, .slice A n c, .slice B p d] 46)).cell? ⟨w.heap.size, 3, none⟩ = some (.int .i64 s) := by simp
  have x4 : (w.alloc (.cells #[.int .i64 kd, .int .i64 f, .int .i64 v, .int .i64 s, .int .i64 a, .int .i64 b, .int .i64 c0, .int .i64 x, .int .i64 y, .slice A n c, .slice B p d] 46)).cell? ⟨w.heap.size, 4, none⟩ = some (.int .i64 a) := by simp
  have x5 : (w.alloc (.cells #[.int .i64 kd, .int .i64 f, .int .i64 v, .int .i64 s, .int .i64 a, .int .i64 b, .int .i64 c0, .int .i64 x, .int .i64 y, .slice A n c, .slice B p d] 46)).cell? ⟨w.heap.size, 5, none⟩ = some (.int .i64 b) := by simp
  have x6 : (w.alloc (.cells #[.int .i64 kd, .int .i64 f, .int .i64 v, .int .i64 s, .int .i64 a, .int .i64 b, .int .i64 c0, .int .i64 x, .int .i64 y, .slice A n c, .slice B p d] 46)).cell? ⟨w.heap.size, 6, none⟩ = some (.int .i64 c0) := by simp
  have x7 : (w.alloc (.cells #[.int .i64 kd, .int .i64 f, .int .i64 v, .int .i64 s, .int .i64 a, .int .i64 b, .int .i64 c0, .int .i64 x, .int .i64 y, .slice A n c, .slice B p d] 46)).cell? ⟨w.heap.size, 7, none⟩ = some (.int .i64 x) := by simp
  have x8 : (w.alloc (.cells #[.int .i64 kd, .int .i64 f, .int .i64 v, .int .i64 s, .int .i64 a, .int .i64 b, .int .i64 c0, .int .i64 x, .int .i64 y, .slice A n c, .slice B p d] 46)).cell? ⟨w.heap.size, 8, none⟩ = some (.int .i64 y) := by simp
  have x9 : (w.alloc (.cells #[.int .i64 kd, .int .i64 f, .int .i64 v, .int .i64 s, .int .i64 a, .int .i64 b, .int .i64 c0, .int .i64 x, .int .i64 y, .slice A n c, .slice B p d] 46)).cell? ⟨w.heap.size, 9, none⟩ = some (.slice A n c) := by simp
  have x10 : (w.alloc (.cells #[.int .i64 kd, .int .i64 f, .int .i64 v, .int .i64 s, .int .i64 a, .int .i64 b, .int .i64 c0, .int .i64 x, .int .i64 y, .slice A n c, .slice B p d] 46)).cell? ⟨w.heap.size, 10, none⟩ = some (.slice B p d) := by simp
  have hl : w.heap.size < (w.alloc (.cells #[.int .i64 kd, .int .i64 f, .int .i64 v, .int .i64 s, .int .i64 a, .int .i64 b, .int .i64 c0, .int .i64 x, .int .i64 y, .slice A n c, .slice B p d] 46)).heap.size := by simp
  have hk' := hide hk
  go_enter Tryz.func23, Tryz.ntmps23
  go_wp2
  generalize w.alloc (.cells #[.int .i64 kd, .int .i64 f, .int .i64 v, .int .i64 s, .int .i64 a, .int .i64 b, .int .i64 c0, .int .i64 x, .int .i64 y, .slice A n c, .slice B p d] 46) = w1 at *
  refine wp_region_T (Since _) [] [] [8] [0, 1, 2, 3, 4, 5, 6, 7, 8, 9, 10, 11, 12, 13, 14, 15, 16, 17, 18, 19, 20, 21, 22] (by kernel_rfl) (by kernel_rfl) (by kernel_rfl) (Since.drew _) ?_; simp only [pickL, List.getElem?_cons_succ, List.getElem?_cons_zero]
  go_wp2_with (first
    | ((refine no_implicit_lambda% (g4_ ?_)); intro hS) | ((refine no_implicit_lambda% (g26_ ?_)); intro K hK) | (refine no_implicit_lambda% (g1_ ?_)) | ((refine no_implicit_lambda% (g6_ ?_)); intro K hK) | (refine no_implicit_lambda% (g3_ ?_))
    | (go_at_call 31; refine (in_c _ _ _ _).mono ?_; rintro e w' ⟨rfl, rfl⟩; rw [hk])
    | fail)
  go_ret
  exact ⟨by simp [okMsgI, hk'.out], hB.drew⟩
theorem MsgOk_c (kd f v s a b c0 x y : Int) (cs : List ClaimT) (vs : List VoteT) (A B : Option Addr) (n c p d lo hi : Nat) (w : World) (hc : RdN 7 clR w lo hi A n c cs) (hv : RdN 2 voteR w lo hi B p d vs) (hhi : hi ≤ w.heap.size) :
    Calls Tryz.prog 23 #[.agg #[.int .i64 kd, .int .i64 f, .int .i64 v, .int .i64 s, .int .i64 a, .int .i64 b, .int .i64 c0, .int .i64 x, .int .i64 y, .slice A n c, .slice B p d]] w fun e w' => e = .returned (.bool (okMsg (kd, f, v, s, (a, b, c0, x, y), cs, vs))) ∧ Below w.heap.size w w' := by
  rw [← okMsgI_eq]
  by_cases k1 : kd = 1
  · subst k1; exact MsgOk1_c 0 f v s a b c0 x y cs vs A B n c p d lo hi w hc hv hhi
  by_cases k2 : kd = 2
  · subst k2; exact MsgOk2_c 0 f v s a b c0 x y cs vs A B n c p d lo hi w hc hv hhi
  by_cases k3 : kd = 3
  · subst k3; exact MsgOk3_c 0 f v s a b c0 x y cs vs A B n c p d lo hi w hc hv hhi
  by_cases k4 : kd = 4
  · subst k4; exact MsgOk4_c 0 f v s a b c0 x y cs vs A B n c p d lo hi w hc hv hhi
  by_cases k5 : kd = 5
  · subst k5; exact MsgOk5_c 0 f v s a b c0 x y cs vs A B n c p d lo hi w hc hv hhi
  by_cases k6 : kd = 6
  · subst k6; exact MsgOk6_c 0 f v s a b c0 x y cs vs A B n c p d lo hi w hc hv hhi
  exact MsgOkX_c kd f v s a b c0 x y cs vs A B n c p d lo hi w hc hv hhi (by unfold inB; simp; omega)
end Go.Proofs.YtopmbnnjhoinkaaGreat
