/-
  'FnMsgSame' returns true, for every code: a letter is the same as itself. (Printed by gen_nvh.py.)
  Conditions: none.
-/
import Derived.Test.YtkmoefgnejhpoaaNVg
import Derived.Test.YtkmoefgnejhpoaaNX
namespace Go.Proofs.Ytkmoefgnejhpoaa
open Go.RowKit Rg
set_option linter.unusedVariables false
set_option linter.unusedSimpArgs false

set_option maxRecDepth 100000 in
theorem specMsgSame_c (a b : MsgT) (A B A' B' : Option Addr) (n c p d n' c' p' d' lo hi lo' hi' : Nat) (w : World) (hc : RdN 7 clR w lo hi A n c a.2.2.2.2.2.1) (hv : RdN 2 voteR w lo hi B p d a.2.2.2.2.2.2) (hc' : RdN 7 clR w lo' hi' A' n' c' b.2.2.2.2.2.1) (hv' : RdN 2 voteR w lo' hi' B' p' d' b.2.2.2.2.2.2) (hhi : hi ≤ w.heap.size) (hhi' : hi' ≤ w.heap.size) :
    Calls Try.prog 6 #[.agg #[.int .i64 a.1, .int .i64 a.2.1, .int .i64 a.2.2.1, .int .i64 a.2.2.2.1, .int .i64 a.2.2.2.2.1.1, .int .i64 a.2.2.2.2.1.2.1, .int .i64 a.2.2.2.2.1.2.2.1, .int .i64 a.2.2.2.2.1.2.2.2.1, .int .i64 a.2.2.2.2.1.2.2.2.2, .slice A n c, .slice B p d], .agg #[.int .i64 b.1, .int .i64 b.2.1, .int .i64 b.2.2.1, .int .i64 b.2.2.2.1, .int .i64 b.2.2.2.2.1.1, .int .i64 b.2.2.2.2.1.2.1, .int .i64 b.2.2.2.2.1.2.2.1, .int .i64 b.2.2.2.2.1.2.2.2.1, .int .i64 b.2.2.2.2.1.2.2.2.2, .slice A' n' c', .slice B' p' d']] w fun e w' => e = .returned (.bool (decide (a = b))) ∧ Below w.heap.size w w' := by
  have hb0 : Below w.heap.size w ((w.alloc (.cells #[.int .i64 a.1, .int .i64 a.2.1, .int .i64 a.2.2.1, .int .i64 a.2.2.2.1, .int .i64 a.2.2.2.2.1.1, .int .i64 a.2.2.2.2.1.2.1, .int .i64 a.2.2.2.2.1.2.2.1, .int .i64 a.2.2.2.2.1.2.2.2.1, .int .i64 a.2.2.2.2.1.2.2.2.2, .slice A n c, .slice B p d] 28)).alloc (.cells #[.int .i64 b.1, .int .i64 b.2.1, .int .i64 b.2.2.1, .int .i64 b.2.2.2.1, .int .i64 b.2.2.2.2.1.1, .int .i64 b.2.2.2.2.1.2.1, .int .i64 b.2.2.2.2.1.2.2.1, .int .i64 b.2.2.2.2.1.2.2.2.1, .int .i64 b.2.2.2.2.1.2.2.2.2, .slice A' n' c', .slice B' p' d'] 28)) := ((Below.refl _ _).alloc (Nat.le_refl _) _).alloc (by simp) _
  have hc0 := hc.below (flat_kept _) hb0 hhi
  have hv0 := hv.below vote_kept hb0 hhi
  have hc0' := hc'.below (flat_kept _) hb0 hhi'
  have hv0' := hv'.below vote_kept hb0 hhi'
  have hz := hb0.size
  go_enter Try.func6, Try.ntmps6
  go_wp2_with fail
  refine (l3Same_c a b A B A' B' n c p d n' c' p' d' lo hi lo' hi' _ hc0 hv0 hc0' hv0' (by omega) (by omega)).mono ?_
  rintro e w1 ⟨rfl, hb1⟩
  go_wp2
  go_ret
  exact ⟨rfl, hb0.trans (hb1.mono hb0.size)⟩
theorem since_of {w0 w : World} (h : Below w0.heap.size w0 w) : Since w0 w := ⟨h.size, fun b hb => h.block b hb⟩
theorem Read2.at_ {w w' : World} {lo hi : Nat} {m : MsgT} {A : Option Addr} {n c : Nat} {B : Option Addr} {p d : Nat} (h : Read2 w lo hi m A n c B p d) (hb : Below w.heap.size w w') (hh : hi ≤ w.heap.size) : Read2 w' lo hi m A n c B p d := h.keep (Nat.le_refl _) (Nat.le_refl _) (fun b _ hb2 => hb.block b (by omega))
set_option maxRecDepth 100000 in
set_option maxHeartbeats 8000000 in
theorem lawMsgSameD (A0 : Option Addr) (n0 c0 : Nat) (bs : List Int) (w : World) (hn : n0 = bs.length) (hc : n0 ≤ c0) (hcm : c0 ≤ maxLen) (hs : Sl encU 1 w 0 w.heap.size A0 bs) (hb : ∀ b ∈ bs, 0 ≤ b ∧ b < 256) :
    Calls Try.prog 3 #[.slice A0 n0 c0] w fun e w' => e = .returned (.bool true) ∧ Below w.heap.size w w' := by
  by_cases hbig : 1048576 < n0
  · have d1 : decide (1048576 < (n0 : Int)) = true := by simp only [decide_eq_true_eq]; omega
    go_enter Try.func3, Try.ntmps3
    go_wp2
    go_ret
    exact ⟨rfl, Below.refl _ _⟩
  · have d1 : decide (1048576 < (n0 : Int)) = false := by simp only [decide_eq_false_iff_not]; omega
    have hn' := hide hn
    clear hn
    go_enter Try.func3, Try.ntmps3
    go_wp2_with fail
    refine (DrawMsgSame_c A0 n0 c0 bs w hn'.out hc hcm hs hb).mono ?_
    rintro e w1 ⟨m, x, A, n, c, B, p, d, A', n', c', B', p', d', rfl, hm1, hx1, hb1⟩
    have hA := ((Below.refl w1.heap.size w1).alloc (Nat.le_refl _) (.cells #[.int .i64 m.1, .int .i64 m.2.1, .int .i64 m.2.2.1, .int .i64 m.2.2.2.1, .int .i64 m.2.2.2.2.1.1, .int .i64 m.2.2.2.2.1.2.1, .int .i64 m.2.2.2.2.1.2.2.1, .int .i64 m.2.2.2.2.1.2.2.2.1, .int .i64 m.2.2.2.2.1.2.2.2.2, .slice A n c, .slice B p d] 28)).alloc (by simp) (.cells #[.int .i64 x.1, .int .i64 x.2.1, .int .i64 x.2.2.1, .int .i64 x.2.2.2.1, .int .i64 x.2.2.2.2.1.1, .int .i64 x.2.2.2.2.1.2.1, .int .i64 x.2.2.2.2.1.2.2.1, .int .i64 x.2.2.2.2.1.2.2.2.1, .int .i64 x.2.2.2.2.1.2.2.2.2, .slice A' n' c', .slice B' p' d'] 28)
    have hX : LBox ((w1.alloc (.cells #[.int .i64 m.1, .int .i64 m.2.1, .int .i64 m.2.2.1, .int .i64 m.2.2.2.1, .int .i64 m.2.2.2.2.1.1, .int .i64 m.2.2.2.2.1.2.1, .int .i64 m.2.2.2.2.1.2.2.1, .int .i64 m.2.2.2.2.1.2.2.2.1, .int .i64 m.2.2.2.2.1.2.2.2.2, .slice A n c, .slice B p d] 28)).alloc (.cells #[.int .i64 x.1, .int .i64 x.2.1, .int .i64 x.2.2.1, .int .i64 x.2.2.2.1, .int .i64 x.2.2.2.2.1.1, .int .i64 x.2.2.2.2.1.2.1, .int .i64 x.2.2.2.2.1.2.2.1, .int .i64 x.2.2.2.2.1.2.2.2.1, .int .i64 x.2.2.2.2.1.2.2.2.2, .slice A' n' c', .slice B' p' d'] 28)) w1.heap.size m (.slice A n c) (.slice B p d) := (((Below.refl (w1.alloc (.cells #[.int .i64 m.1, .int .i64 m.2.1, .int .i64 m.2.2.1, .int .i64 m.2.2.2.1, .int .i64 m.2.2.2.2.1.1, .int .i64 m.2.2.2.2.1.2.1, .int .i64 m.2.2.2.2.1.2.2.1, .int .i64 m.2.2.2.2.1.2.2.2.1, .int .i64 m.2.2.2.2.1.2.2.2.2, .slice A n c, .slice B p d] 28)).heap.size (w1.alloc (.cells #[.int .i64 m.1, .int .i64 m.2.1, .int .i64 m.2.2.1, .int .i64 m.2.2.2.1, .int .i64 m.2.2.2.2.1.1, .int .i64 m.2.2.2.2.1.2.1, .int .i64 m.2.2.2.2.1.2.2.1, .int .i64 m.2.2.2.2.1.2.2.2.1, .int .i64 m.2.2.2.2.1.2.2.2.2, .slice A n c, .slice B p d] 28))).alloc (Nat.le_refl _) (.cells #[.int .i64 x.1, .int .i64 x.2.1, .int .i64 x.2.2.1, .int .i64 x.2.2.2.1, .int .i64 x.2.2.2.2.1.1, .int .i64 x.2.2.2.2.1.2.1, .int .i64 x.2.2.2.2.1.2.2.1, .int .i64 x.2.2.2.2.1.2.2.2.1, .int .i64 x.2.2.2.2.1.2.2.2.2, .slice A' n' c', .slice B' p' d'] 28)).block _ (by simp)).trans (heap_alloc_new w1 (.cells #[.int .i64 m.1, .int .i64 m.2.1, .int .i64 m.2.2.1, .int .i64 m.2.2.2.1, .int .i64 m.2.2.2.2.1.1, .int .i64 m.2.2.2.2.1.2.1, .int .i64 m.2.2.2.2.1.2.2.1, .int .i64 m.2.2.2.2.1.2.2.2.1, .int .i64 m.2.2.2.2.1.2.2.2.2, .slice A n c, .slice B p d] 28))
    have hY : LBox ((w1.alloc (.cells #[.int .i64 m.1, .int .i64 m.2.1, .int .i64 m.2.2.1, .int .i64 m.2.2.2.1, .int .i64 m.2.2.2.2.1.1, .int .i64 m.2.2.2.2.1.2.1, .int .i64 m.2.2.2.2.1.2.2.1, .int .i64 m.2.2.2.2.1.2.2.2.1, .int .i64 m.2.2.2.2.1.2.2.2.2, .slice A n c, .slice B p d] 28)).alloc (.cells #[.int .i64 x.1, .int .i64 x.2.1, .int .i64 x.2.2.1, .int .i64 x.2.2.2.1, .int .i64 x.2.2.2.2.1.1, .int .i64 x.2.2.2.2.1.2.1, .int .i64 x.2.2.2.2.1.2.2.1, .int .i64 x.2.2.2.2.1.2.2.2.1, .int .i64 x.2.2.2.2.1.2.2.2.2, .slice A' n' c', .slice B' p' d'] 28)) (w1.heap.size + 1) x (.slice A' n' c') (.slice B' p' d') := by
      have := heap_alloc_new (w1.alloc (.cells #[.int .i64 m.1, .int .i64 m.2.1, .int .i64 m.2.2.1, .int .i64 m.2.2.2.1, .int .i64 m.2.2.2.2.1.1, .int .i64 m.2.2.2.2.1.2.1, .int .i64 m.2.2.2.2.1.2.2.1, .int .i64 m.2.2.2.2.1.2.2.2.1, .int .i64 m.2.2.2.2.1.2.2.2.2, .slice A n c, .slice B p d] 28)) (.cells #[.int .i64 x.1, .int .i64 x.2.1, .int .i64 x.2.2.1, .int .i64 x.2.2.2.1, .int .i64 x.2.2.2.2.1.1, .int .i64 x.2.2.2.2.1.2.1, .int .i64 x.2.2.2.2.1.2.2.1, .int .i64 x.2.2.2.2.1.2.2.2.1, .int .i64 x.2.2.2.2.1.2.2.2.2, .slice A' n' c', .slice B' p' d'] 28)
      simpa [LBox] using this
    have hm2 := hm1.at_ hA (Nat.le_refl _)
    have hx2 := hx1.at_ hA (Nat.le_refl _)
    have hB2 := hb1.trans (hA.mono hb1.size)
    have hz2 := hA.size
    have c1 := hm1.cl.cap
    have c2 := hm1.cl.max
    have c3 := hm1.vo.cap
    have c4 := hm1.vo.max
    have c5 := hx1.cl.cap
    have c6 := hx1.cl.max
    have c7 := hx1.vo.cap
    have c8 := hx1.vo.max
    unfold maxLen at c2 c4 c6 c8
    clear hm1 hx1 hA hb1
    obtain ⟨x0, x1, x2, x3, x4, x5, x6, x7, x8, x9, x10, xf0, xf1, xf2, xf3, xf4, xf5, xf6, xf7, xf8, xf9, xf10⟩ := hX.cells
    obtain ⟨y0, y1, y2, y3, y4, y5, y6, y7, y8, y9, y10, yf0, yf1, yf2, yf3, yf4, yf5, yf6, yf7, yf8, yf9, yf10⟩ := hY.cells
    have hlX := hX.lt
    have hlY := hY.lt
    go_wp2_with fail
    generalize (w1.alloc (.cells #[.int .i64 m.1, .int .i64 m.2.1, .int .i64 m.2.2.1, .int .i64 m.2.2.2.1, .int .i64 m.2.2.2.2.1.1, .int .i64 m.2.2.2.2.1.2.1, .int .i64 m.2.2.2.2.1.2.2.1, .int .i64 m.2.2.2.2.1.2.2.2.1, .int .i64 m.2.2.2.2.1.2.2.2.2, .slice A n c, .slice B p d] 28)).alloc (.cells #[.int .i64 x.1, .int .i64 x.2.1, .int .i64 x.2.2.1, .int .i64 x.2.2.2.1, .int .i64 x.2.2.2.2.1.1, .int .i64 x.2.2.2.2.1.2.1, .int .i64 x.2.2.2.2.1.2.2.1, .int .i64 x.2.2.2.2.1.2.2.2.1, .int .i64 x.2.2.2.2.1.2.2.2.2, .slice A' n' c', .slice B' p' d'] 28) = w2 at *
    have sab := hide (fun W (hW : Below w2.heap.size w2 W) => MsgSame_c m x A B A' B' n c p d n' c' p' d' _ _ _ _ W (hm2.at_ hW hz2).cl (hm2.at_ hW hz2).vo (hx2.at_ hW hz2).cl (hx2.at_ hW hz2).vo (Nat.le_trans hz2 hW.size) (Nat.le_trans hz2 hW.size))
    have tab := hide (fun W (hW : Below w2.heap.size w2 W) => specMsgSame_c m x A B A' B' n c p d n' c' p' d' _ _ _ _ W (hm2.at_ hW hz2).cl (hm2.at_ hW hz2).vo (hx2.at_ hW hz2).cl (hx2.at_ hW hz2).vo (Nat.le_trans hz2 hW.size) (Nat.le_trans hz2 hW.size))
    have saa := hide (fun W (hW : Below w2.heap.size w2 W) => MsgSame_c m m A B A B n c p d n c p d _ _ _ _ W (hm2.at_ hW hz2).cl (hm2.at_ hW hz2).vo (hm2.at_ hW hz2).cl (hm2.at_ hW hz2).vo (Nat.le_trans hz2 hW.size) (Nat.le_trans hz2 hW.size))
    have sba := hide (fun W (hW : Below w2.heap.size w2 W) => MsgSame_c x m A' B' A B n' c' p' d' n c p d _ _ _ _ W (hx2.at_ hW hz2).cl (hx2.at_ hW hz2).vo (hm2.at_ hW hz2).cl (hm2.at_ hW hz2).vo (Nat.le_trans hz2 hW.size) (Nat.le_trans hz2 hW.size))
    have oa := hide (fun W (hW : Below w2.heap.size w2 W) => MsgOkT_c m A B n c p d _ _ W (hm2.at_ hW hz2).cl (hm2.at_ hW hz2).vo (Nat.le_trans hz2 hW.size))
    have ob := hide (fun W (hW : Below w2.heap.size w2 W) => MsgOkT_c x A' B' n' c' p' d' _ _ W (hx2.at_ hW hz2).cl (hx2.at_ hW hz2).vo (Nat.le_trans hz2 hW.size))
    have ta := hide (fun W (hW : Below w2.heap.size w2 W) => specMsgOk_c m A B n c p d _ _ W (hm2.at_ hW hz2).cl (hm2.at_ hW hz2).vo (Nat.le_trans hz2 hW.size))
    have hcase : ∃ bb : Bool, decide (m = x) = bb ∧ decide (x = m) = bb ∧ (bb = true → okMsg m = okMsg x) := by
      by_cases h : m = x
      · exact ⟨true, by simp [h], by simp [h], fun _ => by rw [h]⟩
      · exact ⟨false, decide_eq_false h, decide_eq_false (fun h2 => h h2.symm), fun h => by cases h⟩
    obtain ⟨bb, q1, q2, q3⟩ := hcase
    have q1' := hide q1
    have q2' := hide q2
    have q3' := hide q3
    have n1 : (bb != bb) = false := by simp
    have n2 : (bb == bb) = true := by simp
    have hB2' := hide hB2
    clear hm2 hx2 q1 q2 q3 hB2
    refine (sab.out w2 (Below.refl _ _)).mono ?_
    rintro e w3 ⟨rfl, hD3⟩
    rw [q1'.out]
    have hX3 := hX.below hD3 hX.lt
    have hY3 := hY.below hD3 hY.lt
    have q0' : Hid (decide (m = m) = true) := hide (by simp)
    have hlX3 := hX3.lt
    have hlY3 := hY3.lt
    obtain ⟨x0, x1, x2, x3, x4, x5, x6, x7, x8, x9, x10, xf0, xf1, xf2, xf3, xf4, xf5, xf6, xf7, xf8, xf9, xf10⟩ := hX3.cells
    obtain ⟨y0, y1, y2, y3, y4, y5, y6, y7, y8, y9, y10, yf0, yf1, yf2, yf3, yf4, yf5, yf6, yf7, yf8, yf9, yf10⟩ := hY3.cells
    obtain ⟨om, hom⟩ : ∃ om, okMsg m = om := ⟨_, rfl⟩
    obtain ⟨ox, hox⟩ : ∃ ox, okMsg x = ox := ⟨_, rfl⟩
    have hom' := hide hom
    have hox' := hide hox
    clear hom hox
    have n3 : (om != om) = false := by simp
    cases bb
    · go_wp2
      refine wp_region_T (Since _) [] [] [25] [0, 1, 2, 3, 4, 5, 6, 8, 7, 9, 10, 11] (by kernel_rfl) (by kernel_rfl) (by kernel_rfl) (Since.drew _) ?_; simp only [pickL, List.getElem?_cons_succ, List.getElem?_cons_zero]
      go_wp2_with (first
        | (go_at_call 6; refine (tab.out w3.drew hD3.drew).mono ?_; rintro e w4 ⟨rfl, hb4⟩; rw [q1'.out]; have E4 : Below w3.heap.size w3 w4 := (Below.drew (Below.refl _ w3)).trans hb4; have hS4 := since_of E4; have hD4 := hD3.trans (E4.mono hD3.size); have hX4 := hX3.below E4 hX3.lt; have hY4 := hY3.below E4 hY3.lt; obtain ⟨x0, x1, x2, x3, x4, x5, x6, x7, x8, x9, x10, xf0, xf1, xf2, xf3, xf4, xf5, xf6, xf7, xf8, xf9, xf10⟩ := hX4.cells; obtain ⟨y0, y1, y2, y3, y4, y5, y6, y7, y8, y9, y10, yf0, yf1, yf2, yf3, yf4, yf5, yf6, yf7, yf8, yf9, yf10⟩ := hY4.cells; have hlX4 := hX4.lt; have hlY4 := hY4.lt)
        | (go_at_call 8; refine (ta.out w5 hD5).mono ?_; rintro e w6 ⟨rfl, hb6⟩; rw [hom'.out]; have E6 := E5.trans (hb6.mono E5.size); have hS6 := since_of E6; have hD6 := hD3.trans (E6.mono hD3.size); have hX6 := hX5.below hb6 hX5.lt; have hY6 := hY5.below hb6 hY5.lt; obtain ⟨x0, x1, x2, x3, x4, x5, x6, x7, x8, x9, x10, xf0, xf1, xf2, xf3, xf4, xf5, xf6, xf7, xf8, xf9, xf10⟩ := hX6.cells; obtain ⟨y0, y1, y2, y3, y4, y5, y6, y7, y8, y9, y10, yf0, yf1, yf2, yf3, yf4, yf5, yf6, yf7, yf8, yf9, yf10⟩ := hY6.cells; have hlX6 := hX6.lt; have hlY6 := hY6.lt)
        | (go_at_call 7; refine (oa.out w4 hD4).mono ?_; rintro e w5 ⟨rfl, hb5⟩; rw [hom'.out]; have E5 := E4.trans (hb5.mono E4.size); have hS5 := since_of E5; have hD5 := hD3.trans (E5.mono hD3.size); have hX5 := hX4.below hb5 hX4.lt; have hY5 := hY4.below hb5 hY4.lt; obtain ⟨x0, x1, x2, x3, x4, x5, x6, x7, x8, x9, x10, xf0, xf1, xf2, xf3, xf4, xf5, xf6, xf7, xf8, xf9, xf10⟩ := hX5.cells; obtain ⟨y0, y1, y2, y3, y4, y5, y6, y7, y8, y9, y10, yf0, yf1, yf2, yf3, yf4, yf5, yf6, yf7, yf8, yf9, yf10⟩ := hY5.cells; have hlX5 := hX5.lt; have hlY5 := hY5.lt)
        | (with_reducible refine Since.and_ ?_ ?_; (focus (repeat (first | (with_reducible exact Since.refl _) | assumption | (with_reducible refine Since.drewR ?_) | (with_reducible refine Since.alloc ?_ _) | ((with_reducible apply Since.below); rotate_left; (focus assumption))))); intro hS) | ((with_reducible refine wpT_noL ?_ ?_); (focus (first | exact wanted_no _ _ _ rfl rfl rfl | exact wanted_un _ _ _ rfl rfl rfl)); simp only [setO, List.set_cons_succ, List.set_cons_zero]) | ((with_reducible refine wpT_q0 ?_ ?_ ?_ ?_); (focus rfl); (focus rfl); (focus rfl); intro K hK) | ((with_reducible apply wpT_l); (focus rfl); (focus rfl); (focus rfl); (focus rfl); (focus (first | exact Since.drew _ | assumption)); (focus (simp <;> omega)); (focus go_simp); intro K hK) | ((with_reducible apply wpT_lw); (focus exact wanted_yes _ _ _ rfl rfl rfl); (focus rfl); (focus rfl); (focus rfl); (focus (first | exact Since.drew _ | assumption)); (focus (simp <;> omega)); (focus go_simp); intro K hK) | ((with_reducible refine wpT_xs0 ?_ ?_ ?_); (focus rfl); (focus rfl); intro K hK) | ((with_reducible refine wpT_q1 ?_ ?_ ?_ ?_); (focus exact wanted_yes _ _ _ rfl rfl rfl); (focus rfl); (focus rfl); intro K hK) | ((with_reducible refine wpT_xs1 ?_ ?_ ?_); (focus exact wanted_yes _ _ _ rfl rfl rfl); (focus rfl); intro K hK) | ((with_reducible refine wpT_nil ?_); try dsimp only)
        | fail)
      refine wp_region_T (Since _) [] [] [45] [0, 1, 2, 3, 4, 5, 7, 6, 8, 9, 10, 11, 12, 13, 14, 16, 15, 17, 18, 19, 20, 21] (by kernel_rfl) (by kernel_rfl) (by kernel_rfl) (Since.drew _) ?_; simp only [pickL, List.getElem?_cons_succ, List.getElem?_cons_zero]
      go_wp2_with (first
        | (go_at_call 5; refine (sba.out w7 hD7).mono ?_; rintro e w8 ⟨rfl, hb8⟩; rw [q2'.out]; have E8 := E7.trans (hb8.mono E7.size); have hS8 := since_of E8; have hD8 := hD6.trans (E8.mono hD6.size); have hX8 := hX7.below hb8 hX7.lt; have hY8 := hY7.below hb8 hY7.lt; obtain ⟨x0, x1, x2, x3, x4, x5, x6, x7, x8, x9, x10, xf0, xf1, xf2, xf3, xf4, xf5, xf6, xf7, xf8, xf9, xf10⟩ := hX8.cells; obtain ⟨y0, y1, y2, y3, y4, y5, y6, y7, y8, y9, y10, yf0, yf1, yf2, yf3, yf4, yf5, yf6, yf7, yf8, yf9, yf10⟩ := hY8.cells; have hlX8 := hX8.lt; have hlY8 := hY8.lt)
        | (go_at_call 5; refine (saa.out w6.drew hD6.drew).mono ?_; rintro e w7 ⟨rfl, hb7⟩; rw [q0'.out]; have E7 : Below w6.heap.size w6 w7 := (Below.drew (Below.refl _ w6)).trans hb7; have hS7 := since_of E7; have hD7 := hD6.trans (E7.mono hD6.size); have hX7 := hX6.below E7 hX6.lt; have hY7 := hY6.below E7 hY6.lt; obtain ⟨x0, x1, x2, x3, x4, x5, x6, x7, x8, x9, x10, xf0, xf1, xf2, xf3, xf4, xf5, xf6, xf7, xf8, xf9, xf10⟩ := hX7.cells; obtain ⟨y0, y1, y2, y3, y4, y5, y6, y7, y8, y9, y10, yf0, yf1, yf2, yf3, yf4, yf5, yf6, yf7, yf8, yf9, yf10⟩ := hY7.cells; have hlX7 := hX7.lt; have hlY7 := hY7.lt)
        | (with_reducible refine Since.and_ ?_ ?_; (focus (repeat (first | (with_reducible exact Since.refl _) | assumption | (with_reducible refine Since.drewR ?_) | (with_reducible refine Since.alloc ?_ _) | ((with_reducible apply Since.below); rotate_left; (focus assumption))))); intro hS) | ((with_reducible refine wpT_noL ?_ ?_); (focus (first | exact wanted_no _ _ _ rfl rfl rfl | exact wanted_un _ _ _ rfl rfl rfl)); simp only [setO, List.set_cons_succ, List.set_cons_zero]) | ((with_reducible refine wpT_q0 ?_ ?_ ?_ ?_); (focus rfl); (focus rfl); (focus rfl); intro K hK) | ((with_reducible apply wpT_l); (focus rfl); (focus rfl); (focus rfl); (focus rfl); (focus (first | exact Since.drew _ | assumption)); (focus (simp <;> omega)); (focus go_simp); intro K hK) | ((with_reducible apply wpT_lw); (focus exact wanted_yes _ _ _ rfl rfl rfl); (focus rfl); (focus rfl); (focus rfl); (focus (first | exact Since.drew _ | assumption)); (focus (simp <;> omega)); (focus go_simp); intro K hK) | ((with_reducible refine wpT_xs0 ?_ ?_ ?_); (focus rfl); (focus rfl); intro K hK) | ((with_reducible refine wpT_q1 ?_ ?_ ?_ ?_); (focus exact wanted_yes _ _ _ rfl rfl rfl); (focus rfl); (focus rfl); intro K hK) | ((with_reducible refine wpT_xs1 ?_ ?_ ?_); (focus exact wanted_yes _ _ _ rfl rfl rfl); (focus rfl); intro K hK) | ((with_reducible refine wpT_nil ?_); try dsimp only)
        | fail)
      go_ret
      exact ⟨rfl, hB2'.out.trans (hD8.mono hB2'.out.size)⟩
    · obtain rfl : om = ox := hom'.out.symm.trans ((q3'.out rfl).trans hox'.out)
      have n4 : (om == om) = true := by simp
      go_wp2
      refine wp_region_T (Since _) [] [] [25] [0, 1, 2, 3, 4, 5, 6, 8, 7, 9, 10, 11] (by kernel_rfl) (by kernel_rfl) (by kernel_rfl) (Since.drew _) ?_; simp only [pickL, List.getElem?_cons_succ, List.getElem?_cons_zero]
      go_wp2_with (first
        | (go_at_call 6; refine (tab.out w3.drew hD3.drew).mono ?_; rintro e w4 ⟨rfl, hb4⟩; rw [q1'.out]; have E4 : Below w3.heap.size w3 w4 := (Below.drew (Below.refl _ w3)).trans hb4; have hS4 := since_of E4; have hD4 := hD3.trans (E4.mono hD3.size); have hX4 := hX3.below E4 hX3.lt; have hY4 := hY3.below E4 hY3.lt; obtain ⟨x0, x1, x2, x3, x4, x5, x6, x7, x8, x9, x10, xf0, xf1, xf2, xf3, xf4, xf5, xf6, xf7, xf8, xf9, xf10⟩ := hX4.cells; obtain ⟨y0, y1, y2, y3, y4, y5, y6, y7, y8, y9, y10, yf0, yf1, yf2, yf3, yf4, yf5, yf6, yf7, yf8, yf9, yf10⟩ := hY4.cells; have hlX4 := hX4.lt; have hlY4 := hY4.lt)
        | (go_at_call 8; refine (ta.out w5 hD5).mono ?_; rintro e w6 ⟨rfl, hb6⟩; rw [hom'.out]; have E6 := E5.trans (hb6.mono E5.size); have hS6 := since_of E6; have hD6 := hD3.trans (E6.mono hD3.size); have hX6 := hX5.below hb6 hX5.lt; have hY6 := hY5.below hb6 hY5.lt; obtain ⟨x0, x1, x2, x3, x4, x5, x6, x7, x8, x9, x10, xf0, xf1, xf2, xf3, xf4, xf5, xf6, xf7, xf8, xf9, xf10⟩ := hX6.cells; obtain ⟨y0, y1, y2, y3, y4, y5, y6, y7, y8, y9, y10, yf0, yf1, yf2, yf3, yf4, yf5, yf6, yf7, yf8, yf9, yf10⟩ := hY6.cells; have hlX6 := hX6.lt; have hlY6 := hY6.lt)
        | (go_at_call 7; refine (oa.out w4 hD4).mono ?_; rintro e w5 ⟨rfl, hb5⟩; rw [hom'.out]; have E5 := E4.trans (hb5.mono E4.size); have hS5 := since_of E5; have hD5 := hD3.trans (E5.mono hD3.size); have hX5 := hX4.below hb5 hX4.lt; have hY5 := hY4.below hb5 hY4.lt; obtain ⟨x0, x1, x2, x3, x4, x5, x6, x7, x8, x9, x10, xf0, xf1, xf2, xf3, xf4, xf5, xf6, xf7, xf8, xf9, xf10⟩ := hX5.cells; obtain ⟨y0, y1, y2, y3, y4, y5, y6, y7, y8, y9, y10, yf0, yf1, yf2, yf3, yf4, yf5, yf6, yf7, yf8, yf9, yf10⟩ := hY5.cells; have hlX5 := hX5.lt; have hlY5 := hY5.lt)
        | (with_reducible refine Since.and_ ?_ ?_; (focus (repeat (first | (with_reducible exact Since.refl _) | assumption | (with_reducible refine Since.drewR ?_) | (with_reducible refine Since.alloc ?_ _) | ((with_reducible apply Since.below); rotate_left; (focus assumption))))); intro hS) | ((with_reducible refine wpT_noL ?_ ?_); (focus (first | exact wanted_no _ _ _ rfl rfl rfl | exact wanted_un _ _ _ rfl rfl rfl)); simp only [setO, List.set_cons_succ, List.set_cons_zero]) | ((with_reducible refine wpT_q0 ?_ ?_ ?_ ?_); (focus rfl); (focus rfl); (focus rfl); intro K hK) | ((with_reducible apply wpT_l); (focus rfl); (focus rfl); (focus rfl); (focus rfl); (focus (first | exact Since.drew _ | assumption)); (focus (simp <;> omega)); (focus go_simp); intro K hK) | ((with_reducible apply wpT_lw); (focus exact wanted_yes _ _ _ rfl rfl rfl); (focus rfl); (focus rfl); (focus rfl); (focus (first | exact Since.drew _ | assumption)); (focus (simp <;> omega)); (focus go_simp); intro K hK) | ((with_reducible refine wpT_xs0 ?_ ?_ ?_); (focus rfl); (focus rfl); intro K hK) | ((with_reducible refine wpT_q1 ?_ ?_ ?_ ?_); (focus exact wanted_yes _ _ _ rfl rfl rfl); (focus rfl); (focus rfl); intro K hK) | ((with_reducible refine wpT_xs1 ?_ ?_ ?_); (focus exact wanted_yes _ _ _ rfl rfl rfl); (focus rfl); intro K hK) | ((with_reducible refine wpT_nil ?_); try dsimp only)
        | fail)
      refine wp_region_T (Since _) [] [] [45] [0, 1, 2, 3, 4, 5, 7, 6, 8, 9, 10, 11, 12, 13, 14, 16, 15, 17, 18, 19, 20, 21] (by kernel_rfl) (by kernel_rfl) (by kernel_rfl) (Since.drew _) ?_; simp only [pickL, List.getElem?_cons_succ, List.getElem?_cons_zero]
      go_wp2_with (first
        | (go_at_call 5; refine (sba.out w7 hD7).mono ?_; rintro e w8 ⟨rfl, hb8⟩; rw [q2'.out]; have E8 := E7.trans (hb8.mono E7.size); have hS8 := since_of E8; have hD8 := hD6.trans (E8.mono hD6.size); have hX8 := hX7.below hb8 hX7.lt; have hY8 := hY7.below hb8 hY7.lt; obtain ⟨x0, x1, x2, x3, x4, x5, x6, x7, x8, x9, x10, xf0, xf1, xf2, xf3, xf4, xf5, xf6, xf7, xf8, xf9, xf10⟩ := hX8.cells; obtain ⟨y0, y1, y2, y3, y4, y5, y6, y7, y8, y9, y10, yf0, yf1, yf2, yf3, yf4, yf5, yf6, yf7, yf8, yf9, yf10⟩ := hY8.cells; have hlX8 := hX8.lt; have hlY8 := hY8.lt)
        | (go_at_call 5; refine (saa.out w6.drew hD6.drew).mono ?_; rintro e w7 ⟨rfl, hb7⟩; rw [q0'.out]; have E7 : Below w6.heap.size w6 w7 := (Below.drew (Below.refl _ w6)).trans hb7; have hS7 := since_of E7; have hD7 := hD6.trans (E7.mono hD6.size); have hX7 := hX6.below E7 hX6.lt; have hY7 := hY6.below E7 hY6.lt; obtain ⟨x0, x1, x2, x3, x4, x5, x6, x7, x8, x9, x10, xf0, xf1, xf2, xf3, xf4, xf5, xf6, xf7, xf8, xf9, xf10⟩ := hX7.cells; obtain ⟨y0, y1, y2, y3, y4, y5, y6, y7, y8, y9, y10, yf0, yf1, yf2, yf3, yf4, yf5, yf6, yf7, yf8, yf9, yf10⟩ := hY7.cells; have hlX7 := hX7.lt; have hlY7 := hY7.lt)
        | (go_at_call 7; refine (ob.out w9 hD9).mono ?_; rintro e w10 ⟨rfl, hb10⟩; rw [hox'.out]; have E10 := E9.trans (hb10.mono E9.size); have hS10 := since_of E10; have hD10 := hD6.trans (E10.mono hD6.size); have hX10 := hX9.below hb10 hX9.lt; have hY10 := hY9.below hb10 hY9.lt; obtain ⟨x0, x1, x2, x3, x4, x5, x6, x7, x8, x9, x10, xf0, xf1, xf2, xf3, xf4, xf5, xf6, xf7, xf8, xf9, xf10⟩ := hX10.cells; obtain ⟨y0, y1, y2, y3, y4, y5, y6, y7, y8, y9, y10, yf0, yf1, yf2, yf3, yf4, yf5, yf6, yf7, yf8, yf9, yf10⟩ := hY10.cells; have hlX10 := hX10.lt; have hlY10 := hY10.lt)
        | (go_at_call 7; refine (oa.out w8 hD8).mono ?_; rintro e w9 ⟨rfl, hb9⟩; rw [hom'.out]; have E9 := E8.trans (hb9.mono E8.size); have hS9 := since_of E9; have hD9 := hD6.trans (E9.mono hD6.size); have hX9 := hX8.below hb9 hX8.lt; have hY9 := hY8.below hb9 hY8.lt; obtain ⟨x0, x1, x2, x3, x4, x5, x6, x7, x8, x9, x10, xf0, xf1, xf2, xf3, xf4, xf5, xf6, xf7, xf8, xf9, xf10⟩ := hX9.cells; obtain ⟨y0, y1, y2, y3, y4, y5, y6, y7, y8, y9, y10, yf0, yf1, yf2, yf3, yf4, yf5, yf6, yf7, yf8, yf9, yf10⟩ := hY9.cells; have hlX9 := hX9.lt; have hlY9 := hY9.lt)
        | (with_reducible refine Since.and_ ?_ ?_; (focus (repeat (first | (with_reducible exact Since.refl _) | assumption | (with_reducible refine Since.drewR ?_) | (with_reducible refine Since.alloc ?_ _) | ((with_reducible apply Since.below); rotate_left; (focus assumption))))); intro hS) | ((with_reducible refine wpT_noL ?_ ?_); (focus (first | exact wanted_no _ _ _ rfl rfl rfl | exact wanted_un _ _ _ rfl rfl rfl)); simp only [setO, List.set_cons_succ, List.set_cons_zero]) | ((with_reducible refine wpT_q0 ?_ ?_ ?_ ?_); (focus rfl); (focus rfl); (focus rfl); intro K hK) | ((with_reducible apply wpT_l); (focus rfl); (focus rfl); (focus rfl); (focus rfl); (focus (first | exact Since.drew _ | assumption)); (focus (simp <;> omega)); (focus go_simp); intro K hK) | ((with_reducible apply wpT_lw); (focus exact wanted_yes _ _ _ rfl rfl rfl); (focus rfl); (focus rfl); (focus rfl); (focus (first | exact Since.drew _ | assumption)); (focus (simp <;> omega)); (focus go_simp); intro K hK) | ((with_reducible refine wpT_xs0 ?_ ?_ ?_); (focus rfl); (focus rfl); intro K hK) | ((with_reducible refine wpT_q1 ?_ ?_ ?_ ?_); (focus exact wanted_yes _ _ _ rfl rfl rfl); (focus rfl); (focus rfl); intro K hK) | ((with_reducible refine wpT_xs1 ?_ ?_ ?_); (focus exact wanted_yes _ _ _ rfl rfl rfl); (focus rfl); intro K hK) | ((with_reducible refine wpT_nil ?_); try dsimp only)
        | fail)
      go_ret
      exact ⟨rfl, hB2'.out.trans (hD10.mono hB2'.out.size)⟩
end Go.Proofs.Ytkmoefgnejhpoaa
