/-
  'eqGame' at two games that read alike.
  Conditions: none.
-/
import Derived.Test.YtajmfonepnkofaaDoorHN
namespace Go.Proofs.YtajmfonepnkofaaDoor
open Go.RowKit Rg
set_option linter.unusedVariables false
set_option linter.unusedSimpArgs false

set_option maxRecDepth 100000 in
set_option maxHeartbeats 2000000 in
theorem eqGame_c (A : Option Addr) (n c : Nat) (B : Option Addr) (p d : Nat) (E : Option Addr) (q f : Nat) (A' : Option Addr) (n' c' : Nat) (B' : Option Addr) (p' d' : Nat) (E' : Option Addr) (q' f' : Nat) (D D' : Nat → Prop) (g : GameT) (w : World)
    (hg : GmD w D A n c B p d E q f g) (hD : ∀ b, D b → b < w.heap.size) (hg' : GmD w D' A' n' c' B' p' d' E' q' f' g) (hD' : ∀ b, D' b → b < w.heap.size) (hl : g.1.length ≤ 1048576 ∧ g.2.1.length ≤ 1048576 ∧ g.2.2.length ≤ 1048576) :
    Calls Tryd.prog 11 #[.agg #[.slice A n c, .slice B p d, .slice E q f], .agg #[.slice A' n' c', .slice B' p' d', .slice E' q' f']] w fun e w' => e = .returned (.bool true) ∧ Below w.heap.size w w' := by
  have hA0 := (Below.refl w.heap.size w).alloc (Nat.le_refl _) (.cells #[.slice A n c, .slice B p d, .slice E q f] 35)
  have hA1 := hA0.alloc (by simp) (.cells #[.slice A' n' c', .slice B' p' d', .slice E' q' f'] 35)
  have hx0 := (Bx3.made w (.slice A n c) (.slice B p d) (.slice E q f) 35).alloc (.cells #[.slice A' n' c', .slice B' p' d', .slice E' q' f'] 35)
  have hx1 := Bx3.made (w.alloc (.cells #[.slice A n c, .slice B p d, .slice E q f] 35)) (.slice A' n' c') (.slice B' p' d') (.slice E' q' f') 35
  rw [World.size_alloc] at hx1
  have hg1 := hide (hg.below hA1 hD)
  have hg1' := hide (hg'.below hA1 hD')
  obtain ⟨xx0, xx1, xx2, xf0, xf1, xf2⟩ := hx0.cells
  obtain ⟨yy0, yy1, yy2, yf0, yf1, yf2⟩ := hx1.cells
  have hz1 : w.heap.size + 2 ≤ ((w.alloc (.cells #[.slice A n c, .slice B p d, .slice E q f] 35)).alloc (.cells #[.slice A' n' c', .slice B' p' d', .slice E' q' f'] 35)).heap.size := by simp only [World.size_alloc]; omega
  have hn := hide hg.en.len
  have hn' := hide hg'.en.len
  have hp := hide hg.fl.len
  have hp' := hide hg'.fl.len
  have hq := hide hg.la.len
  have hq' := hide hg'.la.len
  obtain ⟨hl1, hl2, hl3⟩ := hl
  have hl1 := hide hl1
  have hl2 := hide hl2
  have hl3 := hide hl3
  clear hg hg'
  go_enter Tryd.func11, Tryd.ntmps11
  go_wp2_with fail
  generalize (w.alloc (.cells #[.slice A n c, .slice B p d, .slice E q f] 35)).alloc (.cells #[.slice A' n' c', .slice B' p' d', .slice E' q' f'] 35) = w1 at *
  refine (eqEntS_c A A' n n' c c' 0 w1.heap.size 0 w1.heap.size g.1 g.1 w1 hn.out hn'.out (by have := hn.out; have := hl1.out; omega) (by have := hn'.out; have := hl1.out; omega) (hg1.out.en.sl (fun b hb => by have := hD b hb; omega)) (hg1'.out.en.sl (fun b hb => by have := hD' b hb; omega)) (Nat.le_refl _) (Nat.le_refl _)).mono ?_
  rintro e w2 ⟨rfl, hb2⟩
  rw [decide_eq_true (rfl : g.1 = g.1)]
  have hz2 := hb2.size
  have hx02 := hx0.below hb2 hx0.lt
  have hx12 := hx1.below hb2 hx1.lt
  have hg2 := hide (hg1.out.below hb2 (fun b hb => by have := hD b hb; omega))
  have hg2' := hide (hg1'.out.below hb2 (fun b hb => by have := hD' b hb; omega))
  clear xx0 xx1 xx2 xf0 xf1 xf2 yy0 yy1 yy2 yf0 yf1 yf2
  obtain ⟨xx0, xx1, xx2, xf0, xf1, xf2⟩ := hx02.cells
  obtain ⟨yy0, yy1, yy2, yf0, yf1, yf2⟩ := hx12.cells
  go_wp2_with fail
  refine (eqIntS_c B B' p p' d d' 0 w2.heap.size 0 w2.heap.size g.2.1 g.2.1 w2 hp.out hp'.out (by have := hp.out; have := hl2.out; omega) (by have := hp'.out; have := hl2.out; omega) (hg2.out.fl.sl (fun b hb => by have := hD b hb; omega)) (hg2'.out.fl.sl (fun b hb => by have := hD' b hb; omega)) (Nat.le_refl _) (Nat.le_refl _)).mono ?_
  rintro e w3 ⟨rfl, hb3⟩
  rw [decide_eq_true (rfl : g.2.1 = g.2.1)]
  have hz3 := hb3.size
  have hx03 := hx02.below hb3 hx02.lt
  have hx13 := hx12.below hb3 hx12.lt
  have hg3 := hide (hg2.out.below hb3 (fun b hb => by have := hD b hb; omega))
  have hg3' := hide (hg2'.out.below hb3 (fun b hb => by have := hD' b hb; omega))
  clear xx0 xx1 xx2 xf0 xf1 xf2 yy0 yy1 yy2 yf0 yf1 yf2
  obtain ⟨xx0, xx1, xx2, xf0, xf1, xf2⟩ := hx03.cells
  obtain ⟨yy0, yy1, yy2, yf0, yf1, yf2⟩ := hx13.cells
  go_wp2_with fail
  refine (eqIntS_c E E' q q' f f' 0 w3.heap.size 0 w3.heap.size g.2.2 g.2.2 w3 hq.out hq'.out (by have := hq.out; have := hl3.out; omega) (by have := hq'.out; have := hl3.out; omega) (hg3.out.la.sl (fun b hb => by have := hD b hb; omega)) (hg3'.out.la.sl (fun b hb => by have := hD' b hb; omega)) (Nat.le_refl _) (Nat.le_refl _)).mono ?_
  rintro e w4 ⟨rfl, hb4⟩
  rw [decide_eq_true (rfl : g.2.2 = g.2.2)]
  have hB : Below w.heap.size w w4 := hA1.trans (((hb2.trans (hb3.mono hz2)).trans (hb4.mono (by omega))).mono (by omega))
  go_wp2
  go_ret
  exact ⟨rfl, hB⟩
end Go.Proofs.YtajmfonepnkofaaDoor
