/-
  The laws' 'szGame', 'toGame' for any game. (Printed by gen_ie.py.)
  Conditions: none.
-/
import Derived.Test.YtajmfonepnkofaaDoorID
import Derived.Test.YtajmfonepnkofaaDoorHZe
namespace Go.Proofs.YtajmfonepnkofaaDoor
open Go.RowKit Rg
set_option linter.unusedVariables false
set_option linter.unusedSimpArgs false

theorem szEnt_at (A : Option Addr) (n c left : Nat) (w : World) (hl : left ≤ 1048576) (hm : n ≤ maxLen) :
    Calls Tryd.prog 18 #[.slice A n c, .int .i64 ((1048576 : Int) - (left : Int))] w fun e w' => e = .returned (.int .i64 (if n + left ≤ 1048576 then 1048576 - (left : Int) - (n : Int) else -1)) ∧ Below w.heap.size w w' := by
  unfold maxLen at hm
  by_cases h : n + left ≤ 1048576
  · have d1 : decide ((1048576 : Int) - (left : Int) - (n : Int) < 0) = false := decide_eq_false (by omega)
    go_enter Tryd.func18, Tryd.ntmps18
    go_wp2
    go_ret
    exact ⟨rfl, Below.refl _ _⟩
  · have d1 : decide ((1048576 : Int) - (left : Int) - (n : Int) < 0) = true := decide_eq_true (by omega)
    go_enter Tryd.func18, Tryd.ntmps18
    go_wp2
    go_ret
    exact ⟨rfl, Below.refl _ _⟩
theorem szInt_at (A : Option Addr) (n c left : Nat) (w : World) (hl : left ≤ 1048576) (hm : n ≤ maxLen) :
    Calls Tryd.prog 19 #[.slice A n c, .int .i64 ((1048576 : Int) - (left : Int))] w fun e w' => e = .returned (.int .i64 (if n + left ≤ 1048576 then 1048576 - (left : Int) - (n : Int) else -1)) ∧ Below w.heap.size w w' := by
  unfold maxLen at hm
  by_cases h : n + left ≤ 1048576
  · have d1 : decide ((1048576 : Int) - (left : Int) - (n : Int) < 0) = false := decide_eq_false (by omega)
    go_enter Tryd.func19, Tryd.ntmps19
    go_wp2
    go_ret
    exact ⟨rfl, Below.refl _ _⟩
  · have d1 : decide ((1048576 : Int) - (left : Int) - (n : Int) < 0) = true := decide_eq_true (by omega)
    go_enter Tryd.func19, Tryd.ntmps19
    go_wp2
    go_ret
    exact ⟨rfl, Below.refl _ _⟩
set_option maxRecDepth 100000 in
set_option maxHeartbeats 2000000 in
theorem szGame_c (A : Option Addr) (n c : Nat) (B : Option Addr) (p d : Nat) (E : Option Addr) (q f : Nat) (w : World) (hn : n ≤ maxLen) (hp : p ≤ maxLen) (hq : q ≤ maxLen) :
    Calls Tryd.prog 5 #[.agg #[.slice A n c, .slice B p d, .slice E q f], .int .i64 1048576] w fun e w' => (n + p + q ≤ 1048576 ∧ e = .returned (.int .i64 (1048576 - (n : Int) - (p : Int) - (q : Int))) ∨ ¬ n + p + q ≤ 1048576 ∧ e = .returned (.int .i64 (-1))) ∧ Below w.heap.size w w' := by
  have hA0 := (Below.refl w.heap.size w).alloc (Nat.le_refl _) (.cells #[.slice A n c, .slice B p d, .slice E q f] 25)
  have hx0h := hide (Bx3.made w (.slice A n c) (.slice B p d) (.slice E q f) 25)
  have k0 := szEnt_at A n c 0 (w.alloc (.cells #[.slice A n c, .slice B p d, .slice E q f] 25)) (by omega) hn
  simp only [Nat.add_zero, Int.natCast_zero, Int.sub_zero, Int.ofNat_zero] at k0
  have k0h := hide k0
  clear k0
  go_enter Tryd.func5, Tryd.ntmps5
  go_wp2_with fail
  refine (k0h.out).mono ?_
  generalize w.alloc (.cells #[.slice A n c, .slice B p d, .slice E q f] 25) = w1 at *
  rintro e w2 ⟨rfl, hb2⟩
  have hB2 := hA0.trans (hb2.mono hA0.size)
  have hx2 := hx0h.out.below hb2 hx0h.out.lt
  obtain ⟨xx0, xx1, xx2, -, -, -⟩ := hx2.cells
  by_cases h1 : n ≤ 1048576
  · have d1 : decide ((1048576 : Int) - (n : Int) < 0) = false := decide_eq_false (by omega)
    rw [if_pos h1]
    go_wp2_with fail
    refine (szInt_at B p d n w2 h1 hp).mono ?_
    rintro e w3 ⟨rfl, hb3⟩
    have hB3 := hB2.trans (hb3.mono hB2.size)
    have hx3 := hx2.below hb3 hx2.lt
    clear xx0 xx1 xx2
    obtain ⟨xx0, xx1, xx2, -, -, -⟩ := hx3.cells
    by_cases h2 : p + n ≤ 1048576
    · have d2 : decide ((1048576 : Int) - (n : Int) - (p : Int) < 0) = false := decide_eq_false (by omega)
      rw [if_pos h2]
      have k2 := szInt_at E q f (n + p) w3 (by omega) hq
      rw [show (1048576 : Int) - ((n + p : Nat) : Int) = 1048576 - (n : Int) - (p : Int) by omega] at k2
      have k2h := hide k2
      clear k2
      go_wp2_with fail
      refine (k2h.out).mono ?_
      rintro e w4 ⟨rfl, hb4⟩
      have hB4 := hB3.trans (hb4.mono hB3.size)
      by_cases h3 : q + (n + p) ≤ 1048576
      · have d3 : decide ((1048576 : Int) - (n : Int) - (p : Int) - (q : Int) < 0) = false := decide_eq_false (by omega)
        rw [if_pos h3]
        go_wp2
        go_ret
        exact ⟨.inl ⟨by omega, rfl⟩, hB4⟩
      · rw [if_neg h3]
        have d3 : decide ((-1 : Int) < 0) = true := by decide
        go_wp2
        go_ret
        exact ⟨.inr ⟨by omega, rfl⟩, hB4⟩
    · rw [if_neg h2]
      have d3 : decide ((-1 : Int) < 0) = true := by decide
      go_wp2
      go_ret
      exact ⟨.inr ⟨by omega, rfl⟩, hB3⟩
  · rw [if_neg h1]
    have d3 : decide ((-1 : Int) < 0) = true := by decide
    go_wp2
    go_ret
    exact ⟨.inr ⟨by omega, rfl⟩, hB2⟩
def ToG (w : World) (g : GameT) (e : Ending) (w' : World) : Prop := ∃ (A : Option Addr) (c : Nat) (B : Option Addr) (d : Nat) (E : Option Addr) (f : Nat), e = .returned (.agg #[.slice A g.1.length c, .slice B g.2.1.length d, .slice E g.2.2.length f]) ∧ GmD w' (fun b => w.heap.size ≤ b ∧ b < w'.heap.size) A g.1.length c B g.2.1.length d E g.2.2.length f g ∧ Below w.heap.size w w'
theorem fin_toGame {w w4 w' : World} {A : Option Addr} {c : Nat} {B : Option Addr} {d : Nat} {E : Option Addr} {f : Nat} {g : GameT} {l0 l1 l2 : Nat} (x y K : Nat) (hO : Onl x y w4 w') (hB : Below w.heap.size w w4) (hx : w.heap.size ≤ x) (hy : w.heap.size ≤ y) (hK : w.heap.size ≤ K ∧ x < K ∧ y < K) (hl : K ≤ l0 ∧ K ≤ l1 ∧ K ≤ l2)
    (h0 : Own encEnt 5 82 w4 l0 (.slice A g.1.length c) g.1) (h1 : Own encI 1 3 w4 l1 (.slice B g.2.1.length d) g.2.1) (h2 : Own encI 1 3 w4 l2 (.slice E g.2.2.length f) g.2.2) : ToG w g (.returned (.agg #[.slice A g.1.length c, .slice B g.2.1.length d, .slice E g.2.2.length f])) w' := by
  have k0 := h0.keep (w' := w') (fun b hb => hO.blk b (by have := (h0.lt b hb).1; omega) (by have := (h0.lt b hb).1; omega))
  have k1 := h1.keep (w' := w') (fun b hb => hO.blk b (by have := (h1.lt b hb).1; omega) (by have := (h1.lt b hb).1; omega))
  have k2 := h2.keep (w' := w') (fun b hb => hO.blk b (by have := (h2.lt b hb).1; omega) (by have := (h2.lt b hb).1; omega))
  exact ⟨A, c, B, d, E, f, rfl, ⟨k0.rdD encEnt_len (fun b h h' => ⟨by omega, h'⟩), k1.rdD encI_len (fun b h h' => ⟨by omega, h'⟩), k2.rdD encI_len (fun b h h' => ⟨by omega, h'⟩), k0.ad⟩, hO.bel _ _ hx hy hB⟩
set_option maxRecDepth 100000 in
set_option maxHeartbeats 2000000 in
theorem toGame_c (A : Option Addr) (n c : Nat) (B : Option Addr) (p d : Nat) (E : Option Addr) (q f : Nat) (hi : Nat) (g : GameT) (w : World) (hn : n = g.1.length) (hp : p = g.2.1.length) (hq : q = g.2.2.length) (hbn : n ≤ 1048576) (hbp : p ≤ 1048576) (hbq : q ≤ 1048576) (h0 : Sl encEnt 5 w 0 hi A g.1) (h1 : Sl encI 1 w 0 hi B g.2.1) (h2 : Sl encI 1 w 0 hi E g.2.2) (hhi : hi ≤ w.heap.size) :
    Calls Tryd.prog 7 #[.agg #[.slice A n c, .slice B p d, .slice E q f]] w fun e w' => ToG w g e w' := by
  have hAB : Below w.heap.size w (((w.alloc (.cells #[.slice A n c, .slice B p d, .slice E q f] 25)).alloc (.cells #[.slice none 0 0, .slice none 0 0, .slice none 0 0] 35)).alloc (.cells #[.slice none 0 0, .slice none 0 0, .slice none 0 0] 35)) := (((Below.refl w.heap.size w).alloc (Nat.le_refl _) _).alloc (by simp) _).alloc (by simp; omega) _
  have hx0 : Bx3 (((w.alloc (.cells #[.slice A n c, .slice B p d, .slice E q f] 25)).alloc (.cells #[.slice none 0 0, .slice none 0 0, .slice none 0 0] 35)).alloc (.cells #[.slice none 0 0, .slice none 0 0, .slice none 0 0] 35)) w.heap.size (.slice A n c) (.slice B p d) (.slice E q f) 25 := ((Bx3.made w (.slice A n c) (.slice B p d) (.slice E q f) 25).alloc _).alloc _
  have hr0 : Bx3 (((w.alloc (.cells #[.slice A n c, .slice B p d, .slice E q f] 25)).alloc (.cells #[.slice none 0 0, .slice none 0 0, .slice none 0 0] 35)).alloc (.cells #[.slice none 0 0, .slice none 0 0, .slice none 0 0] 35)) (w.heap.size + 1) (.slice none 0 0) (.slice none 0 0) (.slice none 0 0) 35 := (Bx3.newE (by simp)).alloc _
  have hy0 : Bx3 (((w.alloc (.cells #[.slice A n c, .slice B p d, .slice E q f] 25)).alloc (.cells #[.slice none 0 0, .slice none 0 0, .slice none 0 0] 35)).alloc (.cells #[.slice none 0 0, .slice none 0 0, .slice none 0 0] 35)) (w.heap.size + 2) (.slice none 0 0) (.slice none 0 0) (.slice none 0 0) 35 := Bx3.newE (by simp)
  have hz1 : w.heap.size + 3 ≤ (((w.alloc (.cells #[.slice A n c, .slice B p d, .slice E q f] 25)).alloc (.cells #[.slice none 0 0, .slice none 0 0, .slice none 0 0] 35)).alloc (.cells #[.slice none 0 0, .slice none 0 0, .slice none 0 0] 35)).heap.size := by simp only [World.size_alloc]; omega
  have s0 := hide (h0.below hAB hhi)
  have s1 := hide (h1.below hAB hhi)
  have s2 := hide (h2.below hAB hhi)
  have e0 := hide hn
  have e1 := hide hp
  have e2 := hide hq
  clear h0 h1 h2 hn hp hq
  go_enter Tryd.func7, Tryd.ntmps7
  go_wp2_with fail
  generalize (((w.alloc (.cells #[.slice A n c, .slice B p d, .slice E q f] 25)).alloc (.cells #[.slice none 0 0, .slice none 0 0, .slice none 0 0] 35)).alloc (.cells #[.slice none 0 0, .slice none 0 0, .slice none 0 0] 35)) = w1 at *
  refine (toEntS_c A n c 0 hi g.1 w1 e0.out hbn s0.out (by omega)).mono ?_
  rintro e w2 ⟨v2, rfl, o2, hb2⟩
  obtain ⟨A2, c2, rfl, _, _, _⟩ := o2.form
  have hz2 := hb2.size
  have hx2 := hx0.below hb2 hx0.lt
  have hr2 := hr0.below hb2 hr0.lt
  have hy2 := hy0.below hb2 hy0.lt
  have hB2 := hAB.trans (hb2.mono (by omega))
  have s12 := hide (s1.out.below hb2 (by omega))
  have s22 := hide (s2.out.below hb2 (by omega))
  have o2h := hide o2
  obtain ⟨xx0, xx1, xx2, -, -, -⟩ := hx2.cells
  obtain ⟨yy0, yy1, yy2, yg0, yg1, yg2⟩ := hy2.cells
  clear o2 s1 s2 hb2 s0
  go_wp2_with fail
  have hO3 : Onl (w.heap.size + 2) (w.heap.size + 2) w2 (w2.setCell ⟨w.heap.size + 2, 0, none⟩ (.slice A2 g.1.length c2)) := (Onl.refl _ _ _).set (p := ⟨w.heap.size + 2, 0, none⟩) (.inl rfl) _
  have hz3 : w2.heap.size = (w2.setCell ⟨w.heap.size + 2, 0, none⟩ (.slice A2 g.1.length c2)).heap.size := by simp
  have hx3 := hx2.keep (hO3.blk _ (by omega) (by omega))
  have hr3 := hr2.keep (hO3.blk _ (by omega) (by omega))
  have hy3 := hy2.set0 (.slice A2 g.1.length c2)
  have o3h := hide (o2h.out.keep (fun b hb => hO3.blk b (by have := (o2h.out.lt b hb).1; omega) (by have := (o2h.out.lt b hb).1; omega)))
  have s13 := hide (s12.out.keep (fun b hb1 hb2 => hO3.blk b (by omega) (by omega)))
  have s23 := hide (s22.out.keep (fun b hb1 hb2 => hO3.blk b (by omega) (by omega)))
  have hB3 := hO3.bel w.heap.size w (by omega) (by omega) hB2
  clear xx0 xx1 xx2 yy0 yy1 yy2 yg0 yg1 yg2 o2h s12 s22
  generalize w2.setCell ⟨w.heap.size + 2, 0, none⟩ (.slice A2 g.1.length c2) = w3 at *
  refine (toIntS_c B p d 0 hi g.2.1 w3 e1.out hbp s13.out (by omega)).mono ?_
  rintro e w4 ⟨v4, rfl, o4, hb4⟩
  obtain ⟨A4, c4, rfl, _, _, _⟩ := o4.form
  have hz4 := hb4.size
  have hx4 := hx3.below hb4 hx3.lt
  have hr4 := hr3.below hb4 hr3.lt
  have hy4 := hy3.below hb4 hy3.lt
  have hB4 := hB3.trans (hb4.mono (by omega))
  have s24 := hide (s23.out.below hb4 (by omega))
  have o34 := hide (o3h.out.below hb4 (Nat.le_refl _))
  have o4h := hide o4
  obtain ⟨xx0, xx1, xx2, -, -, -⟩ := hx4.cells
  obtain ⟨yy0, yy1, yy2, yg0, yg1, yg2⟩ := hy4.cells
  clear o4 hb4 o3h s13 s23
  go_wp2_with fail
  have hO5 : Onl (w.heap.size + 2) (w.heap.size + 2) w4 (w4.setCell ⟨w.heap.size + 2, 1, none⟩ (.slice A4 g.2.1.length c4)) := (Onl.refl _ _ _).set (p := ⟨w.heap.size + 2, 1, none⟩) (.inl rfl) _
  have hz5 : w4.heap.size = (w4.setCell ⟨w.heap.size + 2, 1, none⟩ (.slice A4 g.2.1.length c4)).heap.size := by simp
  have hx5 := hx4.keep (hO5.blk _ (by omega) (by omega))
  have hr5 := hr4.keep (hO5.blk _ (by omega) (by omega))
  have hy5 := hy4.set1 (.slice A4 g.2.1.length c4)
  have o35 := hide (o34.out.keep (fun b hb => hO5.blk b (by have := (o34.out.lt b hb).1; omega) (by have := (o34.out.lt b hb).1; omega)))
  have o45 := hide (o4h.out.keep (fun b hb => hO5.blk b (by have := (o4h.out.lt b hb).1; omega) (by have := (o4h.out.lt b hb).1; omega)))
  have s25 := hide (s24.out.keep (fun b hb1 hb2 => hO5.blk b (by omega) (by omega)))
  have hB5 := hO5.bel w.heap.size w (by omega) (by omega) hB4
  clear xx0 xx1 xx2 yy0 yy1 yy2 yg0 yg1 yg2 o34 o4h s24
  generalize w4.setCell ⟨w.heap.size + 2, 1, none⟩ (.slice A4 g.2.1.length c4) = w5 at *
  refine (toIntS_c E q f 0 hi g.2.2 w5 e2.out hbq s25.out (by omega)).mono ?_
  rintro e w6 ⟨v6, rfl, o6, hb6⟩
  obtain ⟨A6, c6, rfl, _, _, _⟩ := o6.form
  have hz6 := hb6.size
  have hx6 := hx5.below hb6 hx5.lt
  have hr6 := hr5.below hb6 hr5.lt
  have hy6 := hy5.below hb6 hy5.lt
  have hB6 := hB5.trans (hb6.mono (by omega))
  have o36 := hide (o35.out.below hb6 (Nat.le_refl _))
  have o46 := hide (o45.out.below hb6 (Nat.le_refl _))
  have o6h := hide o6
  obtain ⟨xx0, xx1, xx2, -, -, -⟩ := hx6.cells
  obtain ⟨yy0, yy1, yy2, yg0, yg1, yg2⟩ := hy6.cells
  obtain ⟨ww0, ww1, ww2, wg0, wg1, wg2⟩ := hr6.cells
  clear o6 hb6 o35 o45
  go_wp2
  refine bodyPost_ret (v := .agg #[.slice A2 g.1.length c2, .slice A4 g.2.1.length c4, .slice A6 g.2.2.length c6]) (by simp [results, Tryd.results7, go_sem, ww0, ww1, ww2, wg0, wg1, wg2]) rfl ?_
  exact fin_toGame (w.heap.size + 1) (w.heap.size + 2) (w.heap.size + 3) (by (repeat (first | (with_reducible exact Onl.refl _ _ _) | (with_reducible exact Onl.drewL _ _ _) | (with_reducible refine Onl.set ?_ (by simp) _) | with_reducible refine Onl.drew ?_))) hB6 (by omega) (by omega) (by omega) ⟨by omega, by omega, by omega⟩ o36.out o46.out o6h.out
theorem toReqAny_c (t : ReqV) (w : World) : Calls Tryd.prog 8 #[.agg #[.int .i64 t.1, .int .i64 t.2.1, .int .i64 t.2.2.1, .int .i64 t.2.2.2.1, .int .i64 t.2.2.2.2]] w fun e w' => e = .returned (.agg #[.int .i64 t.1, .int .i64 t.2.1, .int .i64 t.2.2.1, .int .i64 t.2.2.2.1, .int .i64 t.2.2.2.2]) ∧ Below w.heap.size w w' := toReq_c t w
end Go.Proofs.YtajmfonepnkofaaDoor
