/-
  'heldGame' of a marked game.
  Conditions: none.
-/
import Derived.Test.YtipdkcdhnppdoaaHZf
namespace Go.Proofs.Ytipdkcdhnppdoaa
open Go.RowKit Rg
set_option linter.unusedVariables false
set_option linter.unusedSimpArgs false

set_option maxRecDepth 100000 in
set_option maxHeartbeats 2000000 in
theorem heldGame_c (A : Option Addr) (n : Nat) (B : Option Addr) (p : Nat) (E : Option Addr) (q lo : Nat) (w : World) (hg : GmO w lo A n n B p p E q q (marksEnt 1 n, imarks (1 + 5 * n) p, imarks (1 + 5 * n + p) q)) (hbn : n ≤ 1000) (hbp : p ≤ 1000) (hbq : q ≤ 1000) :
    Calls Try.prog 14 #[.agg #[.slice A n n, .slice B p p, .slice E q q], .int .i64 1] w fun e w' => e = .returned (.int .i64 (((1 + 5 * n + p : Nat) : Int) + q)) ∧ Below w.heap.size w w' := by
  have hA0 := (Below.refl w.heap.size w).alloc (Nat.le_refl _) (.cells #[.slice A n n, .slice B p p, .slice E q q] 27)
  have hx0 := Bx3.made w (.slice A n n) (.slice B p p) (.slice E q q) 27
  have hg1 := hide (hg.below hA0)
  have hz1 : w.heap.size + 1 ≤ (w.alloc (.cells #[.slice A n n, .slice B p p, .slice E q q] 27)).heap.size := by simp only [World.size_alloc]; omega
  obtain ⟨xx0, xx1, xx2, xf0, xf1, xf2⟩ := hx0.cells
  clear hg
  go_enter Try.func14, Try.ntmps14
  go_wp2_with fail
  generalize w.alloc (.cells #[.slice A n n, .slice B p p, .slice E q q] 27) = w1 at *
  refine (heldEntS_c A n n lo w1.heap.size 1 w1 (by omega) (by omega) (by omega) (hg1.out.en.slAt encEnt_len).2.2).mono ?_
  rintro e w2 ⟨rfl, rfl⟩
  rw [show (1 : Int) + 5 * (n : Int) = ((1 + 5 * n : Nat) : Int) by omega]
  obtain ⟨k1, hk1⟩ : ∃ k1 : Nat, k1 = 1 + 5 * n := ⟨_, rfl⟩
  have hg2 := hide (show GmO w1 lo A n n B p p E q q (marksEnt 1 n, imarks k1 p, imarks (k1 + p) q) by rw [hk1]; exact hg1.out)
  rw [← hk1]
  have hk1' := hide hk1
  have hk9 : 0 < k1 ∧ k1 ≤ 5001 := by omega
  clear hk1
  have hq1 : decide ((k1 : Int) < 0) = false := decide_eq_false (by omega)
  go_wp2_with fail
  refine (heldIntS_c B p p lo w1.heap.size k1 w1 (by omega) hk9.1 (by omega) (hg2.out.fl.slAt encI_len).2.2 (Nat.le_refl _)).mono ?_
  rintro e w3 ⟨rfl, hb3⟩
  have hx3 := hx0.below hb3 hx0.lt
  have hg3 := hide (hg2.out.below hb3)
  clear xx0 xx1 xx2 xf0 xf1 xf2
  obtain ⟨xx0, xx1, xx2, xf0, xf1, xf2⟩ := hx3.cells
  rw [show (k1 : Int) + (p : Int) = ((k1 + p : Nat) : Int) by omega]
  obtain ⟨k2, hk2⟩ : ∃ k2 : Nat, k2 = k1 + p := ⟨_, rfl⟩
  have hg4 := hide (show GmO w3 lo A n n B p p E q q (marksEnt 1 n, imarks k1 p, imarks k2 q) by rw [hk2]; exact hg3.out)
  rw [← hk2]
  have hk2' := hide hk2
  have hk8 : 0 < k2 ∧ k2 ≤ 7001 := by omega
  clear hk2
  have hq2 : decide ((k2 : Int) < 0) = false := decide_eq_false (by omega)
  go_wp2_with fail
  refine (heldIntS_c E q q lo w3.heap.size k2 w3 (by omega) hk8.1 (by omega) (hg4.out.la.slAt encI_len).2.2 (Nat.le_refl _)).mono ?_
  rintro e w4 ⟨rfl, hb4⟩
  have hq3 : decide ((k2 : Int) + (q : Int) < 0) = false := decide_eq_false (by omega)
  have hBB : Below w.heap.size w w4 := hA0.trans ((hb3.trans (hb4.mono hb3.size)).mono (by omega))
  go_wp2
  go_ret
  exact ⟨by rw [show k2 = 1 + 5 * n + p by have h1 := hk1'.out; have h2 := hk2'.out; omega]; rfl, hBB⟩
end Go.Proofs.Ytipdkcdhnppdoaa
