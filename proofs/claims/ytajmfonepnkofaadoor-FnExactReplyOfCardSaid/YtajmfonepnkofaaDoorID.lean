/-
  'ReplyOf' in both packages. (Printed by gen_id.py.)
  Conditions: none.
-/
import Derived.Test.YtajmfonepnkofaaDoorIC
import Derived.Test.YtajmfonepnkofaaDoorHY
import Derived.Test.YtajmfonepnkofaaDoorGR
import Derived.Test.YtajmfonepnkofaaDoorPXa
namespace Go.Proofs.YtajmfonepnkofaaDoor
open Go.RowKit Rg
set_option linter.unusedVariables false
set_option linter.unusedSimpArgs false

/-- A box of four cells. -/
def Bx4 (w : World) (b : Nat) (v0 v1 v2 v3 : Value) (t : TypeId) : Prop := w.heap[b]? = some (.cells #[v0, v1, v2, v3] t (0, 0))
section
variable {w w' : World} {b : Nat} {v0 v1 v2 v3 : Value} {t : TypeId}
theorem Bx4.made (w : World) (v0 v1 v2 v3 : Value) (t : TypeId) : Bx4 (w.alloc (.cells #[v0, v1, v2, v3] t)) w.heap.size v0 v1 v2 v3 t := heap_alloc_new w _
theorem Bx4.lt (h : Bx4 w b v0 v1 v2 v3 t) : b < w.heap.size := lt_of_heap h
theorem Bx4.below {K : Nat} (h : Bx4 w b v0 v1 v2 v3 t) (hb : Below K w w') (hK : b < K) : Bx4 w' b v0 v1 v2 v3 t := (hb.block b hK).trans h
theorem Bx4.cells (h : Bx4 w b v0 v1 v2 v3 t) : w.cell? ⟨b, 0, none⟩ = some v0 ∧ w.cell? ⟨b, 1, none⟩ = some v1 ∧ w.cell? ⟨b, 2, none⟩ = some v2 ∧ w.cell? ⟨b, 3, none⟩ = some v3 ∧ w.frozen? ⟨b, 0, none⟩ = false ∧ w.frozen? ⟨b, 1, none⟩ = false ∧ w.frozen? ⟨b, 2, none⟩ = false ∧ w.frozen? ⟨b, 3, none⟩ = false := by
  unfold Bx4 at h
  refine ⟨?_, ?_, ?_, ?_, ?_, ?_, ?_, ?_⟩ <;> first | (simp only [World.cell?, h]; rfl) | (simp [World.frozen?, h])
end
/-- What 'ReplyOf' returns. -/
noncomputable def ansR (frm : Int) (g : GameT) (r : ReqV) : ReplyT × Bool := if inB frm 0 3 = true ∧ okB g = true ∧ okR r = true then ((frm, r.2.1, (doG g r).2, (crcN (putG (doG g r).1) : Int)), true) else ((0, 0, 0, 0), false)
def AnsP (w : World) (x : ReplyT × Bool) (e : Ending) (w' : World) : Prop := e = .returned (.tuple #[.agg #[.int .i64 x.1.1, .int .i64 x.1.2.1, .int .i64 x.1.2.2.1, .int .i64 x.1.2.2.2], .bool x.2]) ∧ Below w.heap.size w w'
theorem okR_NA {r : ReqV} (h : okR r = true) : okNA r := (okN_iff r).1 (by unfold okN; rw [h]; simp)
theorem doG_ok {g : GameT} {r : ReqV} (h : okG g) (hr : okNA r) : okG (doG g r).1 := okG.doing h hr
theorem Bx3.app {w w' : World} {b : Nat} {v0 v1 v2 : Value} {t : TypeId} (h : Bx3 w b v0 v1 v2 t) (hb : Below w.heap.size w w') : Bx3 w' b v0 v1 v2 t := h.below hb h.lt
section
variable {w5 wD : World} {g8 : Nat} {z0 z1 z2 : Value} {A : Option Addr} {n c : Nat} {B : Option Addr} {p d : Nat} {E : Option Addr} {q f : Nat} {D6 : Nat → Prop} {g : GameT}
theorem fin8 (hbz : Bx3 wD g8 z0 z1 z2 35) (h5 : Below w5.heap.size w5 wD) (hg8 : w5.heap.size ≤ g8) (hg : GmD wD D6 A n c B p d E q f g) (hD : ∀ b, D6 b → w5.heap.size ≤ b ∧ b < wD.heap.size ∧ b ≠ g8) :
    Bx3 (((wD.setCell ⟨g8, 0, none⟩ (.slice A n c)).setCell ⟨g8, 1, none⟩ (.slice B p d)).setCell ⟨g8, 2, none⟩ (.slice E q f)) g8 (.slice A n c) (.slice B p d) (.slice E q f) 35 ∧
    Below w5.heap.size w5 (((wD.setCell ⟨g8, 0, none⟩ (.slice A n c)).setCell ⟨g8, 1, none⟩ (.slice B p d)).setCell ⟨g8, 2, none⟩ (.slice E q f)) ∧
    GmD (((wD.setCell ⟨g8, 0, none⟩ (.slice A n c)).setCell ⟨g8, 1, none⟩ (.slice B p d)).setCell ⟨g8, 2, none⟩ (.slice E q f)) (fun b => w5.heap.size ≤ b ∧ b < (((wD.setCell ⟨g8, 0, none⟩ (.slice A n c)).setCell ⟨g8, 1, none⟩ (.slice B p d)).setCell ⟨g8, 2, none⟩ (.slice E q f)).heap.size) A n c B p d E q f g := by
  have hO : Onl g8 g8 wD (((wD.setCell ⟨g8, 0, none⟩ (.slice A n c)).setCell ⟨g8, 1, none⟩ (.slice B p d)).setCell ⟨g8, 2, none⟩ (.slice E q f)) := (((Onl.refl g8 g8 wD).set (p := ⟨g8, 0, none⟩) (.inl rfl) (.slice A n c)).set (p := ⟨g8, 1, none⟩) (.inl rfl) (.slice B p d)).set (p := ⟨g8, 2, none⟩) (.inl rfl) (.slice E q f)
  exact ⟨hbz.sets _ _ _, hO.bel _ _ hg8 hg8 h5, (hg.keep (fun b hb => hO.blk b (hD b hb).2.2 (hD b hb).2.2)).mono (fun b hb => ⟨(hD b hb).1, by rw [hO.size]; exact (hD b hb).2.1⟩)⟩
theorem fin9 (h5 : Below w5.heap.size w5 wD) (hg : GmD wD D6 A n c B p d E q f g) (hD : ∀ b, D6 b → w5.heap.size ≤ b ∧ b < wD.heap.size) :
    Bx3 (wD.alloc (.cells #[.slice A n c, .slice B p d, .slice E q f] 35)) wD.heap.size (.slice A n c) (.slice B p d) (.slice E q f) 35 ∧
    Below w5.heap.size w5 (wD.alloc (.cells #[.slice A n c, .slice B p d, .slice E q f] 35)) ∧
    GmD (wD.alloc (.cells #[.slice A n c, .slice B p d, .slice E q f] 35)) (fun b => w5.heap.size ≤ b ∧ b < (wD.alloc (.cells #[.slice A n c, .slice B p d, .slice E q f] 35)).heap.size) A n c B p d E q f g :=
  ⟨Bx3.made _ _ _ _ _, h5.alloc h5.size _, (hg.below ((Below.refl wD.heap.size wD).alloc (Nat.le_refl _) _) (fun b hb => (hD b hb).2)).mono (fun b hb => ⟨(hD b hb).1, by simp only [World.size_alloc]; have := (hD b hb).2; omega⟩)⟩
end
theorem leafW {P : Program} {c : Code} {Q : Exit → Act → World → Prop} {a : Act} {w : World} (S : World → Prop) (h1 : S w) (h2 : ∀ W, S W → Code.wp P c Q a W) : Code.wp P c Q a w := h2 w h1
set_option maxRecDepth 100000 in
set_option maxHeartbeats 4000000 in
theorem ReplyOf_c (frm : Int) (A : Option Addr) (n c : Nat) (B : Option Addr) (p d : Nat) (E : Option Addr) (q f : Nat) (D : Nat → Prop) (g : GameT) (r : ReqV) (w : World) (hg : GmD w D A n c B p d E q f g) (hD : ∀ b, D b → b < w.heap.size) (hbn : n ≤ 1048576) (hbp : p ≤ 1048576) (hbq : q ≤ 1048576) :
    Calls Tryd.prog 9 #[.int .i64 frm, .agg #[.slice A n c, .slice B p d, .slice E q f], .agg #[.int .i64 r.1, .int .i64 r.2.1, .int .i64 r.2.2.1, .int .i64 r.2.2.2.1, .int .i64 r.2.2.2.2]] w fun e w' => AnsP w (ansR frm g r) e w' := by
  have hAB : Below w.heap.size w (((w.alloc (.cells #[.slice A n c, .slice B p d, .slice E q f] 35)).alloc (.cells #[.int .i64 r.1, .int .i64 r.2.1, .int .i64 r.2.2.1, .int .i64 r.2.2.2.1, .int .i64 r.2.2.2.2] 37)).alloc (.cells #[.int .i64 0, .int .i64 0, .int .i64 0, .int .i64 0] 30)) := (((Below.refl w.heap.size w).alloc (Nat.le_refl _) _).alloc (by simp) _).alloc (by simp; omega) _
  have hx0 : Bx3 (((w.alloc (.cells #[.slice A n c, .slice B p d, .slice E q f] 35)).alloc (.cells #[.int .i64 r.1, .int .i64 r.2.1, .int .i64 r.2.2.1, .int .i64 r.2.2.2.1, .int .i64 r.2.2.2.2] 37)).alloc (.cells #[.int .i64 0, .int .i64 0, .int .i64 0, .int .i64 0] 30)) w.heap.size (.slice A n c) (.slice B p d) (.slice E q f) 35 := ((Bx3.made w (.slice A n c) (.slice B p d) (.slice E q f) 35).alloc _).alloc _
  have hr0 : Bx5 (((w.alloc (.cells #[.slice A n c, .slice B p d, .slice E q f] 35)).alloc (.cells #[.int .i64 r.1, .int .i64 r.2.1, .int .i64 r.2.2.1, .int .i64 r.2.2.2.1, .int .i64 r.2.2.2.2] 37)).alloc (.cells #[.int .i64 0, .int .i64 0, .int .i64 0, .int .i64 0] 30)) (w.heap.size + 1) r 37 := by
    have h2 := (Bx5.made (w.alloc (.cells #[.slice A n c, .slice B p d, .slice E q f] 35)) r 37).below ((Below.refl _ _).alloc (Nat.le_refl _) (.cells #[.int .i64 0, .int .i64 0, .int .i64 0, .int .i64 0] 30)) (by simp)
    simp only [World.size_alloc] at h2
    exact h2
  have hz0 : Bx4 (((w.alloc (.cells #[.slice A n c, .slice B p d, .slice E q f] 35)).alloc (.cells #[.int .i64 r.1, .int .i64 r.2.1, .int .i64 r.2.2.1, .int .i64 r.2.2.2.1, .int .i64 r.2.2.2.2] 37)).alloc (.cells #[.int .i64 0, .int .i64 0, .int .i64 0, .int .i64 0] 30)) (w.heap.size + 2) (.int .i64 0) (.int .i64 0) (.int .i64 0) (.int .i64 0) 30 := by
    have h2 := Bx4.made ((w.alloc (.cells #[.slice A n c, .slice B p d, .slice E q f] 35)).alloc (.cells #[.int .i64 r.1, .int .i64 r.2.1, .int .i64 r.2.2.1, .int .i64 r.2.2.2.1, .int .i64 r.2.2.2.2] 37)) (.int .i64 0) (.int .i64 0) (.int .i64 0) (.int .i64 0) 30
    simp only [World.size_alloc] at h2
    exact h2
  have hz3 : w.heap.size + 3 ≤ (((w.alloc (.cells #[.slice A n c, .slice B p d, .slice E q f] 35)).alloc (.cells #[.int .i64 r.1, .int .i64 r.2.1, .int .i64 r.2.2.1, .int .i64 r.2.2.2.1, .int .i64 r.2.2.2.2] 37)).alloc (.cells #[.int .i64 0, .int .i64 0, .int .i64 0, .int .i64 0] 30)).heap.size := by simp only [World.size_alloc]; omega
  have hg3 := hide (hg.below hAB hD)
  have hn' := hide hg.en.len
  have hp' := hide hg.fl.len
  have hq' := hide hg.la.len
  clear hg
  obtain ⟨xx0, xx1, xx2, -, -, -⟩ := hx0.cells
  obtain ⟨rr0, rr1, rr2, rr3, rr4, -⟩ := hr0.cells
  obtain ⟨yy0, yy1, yy2, yy3, yg0, yg1, yg2, yg3⟩ := hz0.cells
  have hnot : Hid (∀ (h : ¬ (inB frm 0 3 = true ∧ okB g = true ∧ okR r = true)), ansR frm g r = ((0, 0, 0, 0), false)) := hide (fun h => if_neg h)
  go_enter Tryd.func9, Tryd.ntmps9
  go_wp2_with fail
  generalize (((w.alloc (.cells #[.slice A n c, .slice B p d, .slice E q f] 35)).alloc (.cells #[.int .i64 r.1, .int .i64 r.2.1, .int .i64 r.2.2.1, .int .i64 r.2.2.2.1, .int .i64 r.2.2.2.2] 37)).alloc (.cells #[.int .i64 0, .int .i64 0, .int .i64 0, .int .i64 0] 30)) = w3 at *
  cases i1 : inB frm 0 3
  · have hres := hide (hnot.out (fun h => by rw [i1] at h; cases h.1))
    go_wp2_with (first
      | (go_at_call 29; refine (isKeeper_c _ _).mono ?_; rintro e _ ⟨rfl, rfl⟩; rw [i1])
      | fail)
    refine bodyPost_ret (v := .tuple #[.agg #[.int .i64 0, .int .i64 0, .int .i64 0, .int .i64 0], .bool false]) (by simp [results, Tryd.results9, go_sem, yy0, yy1, yy2, yy3, yg0, yg1, yg2, yg3]) rfl ?_
    rw [hres.out]
    exact ⟨rfl, by first | exact hAB | exact (((hAB.setCell (p := ⟨w.heap.size + 2, 0, none⟩) (by simp) _).setCell (p := ⟨w.heap.size + 2, 1, none⟩) (by simp) _).setCell (p := ⟨w.heap.size + 2, 2, none⟩) (by simp) _).setCell (p := ⟨w.heap.size + 2, 3, none⟩) (by simp) _⟩
  · cases i2 : okB g
    · have hres := hide (hnot.out (fun h => by rw [i2] at h; cases h.2.1))
      go_wp2_with (first
        | (go_at_call 29; refine (isKeeper_c _ _).mono ?_; rintro e _ ⟨rfl, rfl⟩; rw [i1])
        | (go_at_call 30; refine (GameOkA_c A n c B p d E q f D g w3 hg3.out (fun b hb => by have := hD b hb; omega) hbn hbp hbq).mono ?_; rintro e w4 ⟨rfl, hb4⟩; rw [i2]; have hz4 := hb4.size; have hB4 := hAB.trans (hb4.mono (by omega)); have hz04 := hz0.below hb4 hz0.lt; clear yy0 yy1 yy2 yy3 yg0 yg1 yg2 yg3; obtain ⟨yy0, yy1, yy2, yy3, yg0, yg1, yg2, yg3⟩ := hz04.cells)
        | fail)
      refine bodyPost_ret (v := .tuple #[.agg #[.int .i64 0, .int .i64 0, .int .i64 0, .int .i64 0], .bool false]) (by simp [results, Tryd.results9, go_sem, yy0, yy1, yy2, yy3, yg0, yg1, yg2, yg3]) rfl ?_
      rw [hres.out]
      exact ⟨rfl, by first | exact hB4 | exact (((hB4.setCell (p := ⟨w.heap.size + 2, 0, none⟩) (by simp) _).setCell (p := ⟨w.heap.size + 2, 1, none⟩) (by simp) _).setCell (p := ⟨w.heap.size + 2, 2, none⟩) (by simp) _).setCell (p := ⟨w.heap.size + 2, 3, none⟩) (by simp) _⟩
    · cases i3 : okR r
      · have hres := hide (hnot.out (fun h => by rw [i3] at h; cases h.2.2))
        go_wp2_with (first
          | (go_at_call 29; refine (isKeeper_c _ _).mono ?_; rintro e _ ⟨rfl, rfl⟩; rw [i1])
          | (go_at_call 30; refine (GameOkA_c A n c B p d E q f D g w3 hg3.out (fun b hb => by have := hD b hb; omega) hbn hbp hbq).mono ?_; rintro e w4 ⟨rfl, hb4⟩; rw [i2]; have hz4 := hb4.size; have hB4 := hAB.trans (hb4.mono (by omega)); have hr4 := hr0.below hb4 hr0.lt; clear rr0 rr1 rr2 rr3 rr4; obtain ⟨rr0, rr1, rr2, rr3, rr4, -⟩ := hr4.cells)
          | (go_at_call 31; refine (ReqOk_c r.1 r.2.1 r.2.2.1 r.2.2.2.1 r.2.2.2.2 w4).mono ?_; rintro e w5 ⟨rfl, hb5⟩; rw [show okR (r.1, r.2.1, r.2.2.1, r.2.2.2.1, r.2.2.2.2) = false from i3]; have hz5 := hb5.size; have hB5 := hB4.trans (hb5.mono (by omega)); have hz05 := (hz0.below hb4 hz0.lt).below hb5 (by have := hz0.lt; omega); clear yy0 yy1 yy2 yy3 yg0 yg1 yg2 yg3; obtain ⟨yy0, yy1, yy2, yy3, yg0, yg1, yg2, yg3⟩ := hz05.cells)
          | fail)
        refine bodyPost_ret (v := .tuple #[.agg #[.int .i64 0, .int .i64 0, .int .i64 0, .int .i64 0], .bool false]) (by simp [results, Tryd.results9, go_sem, yy0, yy1, yy2, yy3, yg0, yg1, yg2, yg3]) rfl ?_
        rw [hres.out]
        exact ⟨rfl, by first | exact hB5 | exact (((hB5.setCell (p := ⟨w.heap.size + 2, 0, none⟩) (by simp) _).setCell (p := ⟨w.heap.size + 2, 1, none⟩) (by simp) _).setCell (p := ⟨w.heap.size + 2, 2, none⟩) (by simp) _).setCell (p := ⟨w.heap.size + 2, 3, none⟩) (by simp) _⟩
      · have hres := hide (show ansR frm g r = ((frm, r.2.1, (doG g r).2, (crcN (putG (doG g r).1) : Int)), true) from if_pos ⟨i1, i2, i3⟩)
        have hok := hide ((okB_iff g).1 i2)
        have hna := hide (okR_NA i3)
        have hok2 := hide (doG_ok hok.out hna.out)
        have hsz := hide (show (asS (putG (doG g r).1)).size ≤ 1048576 by rw [asS_size]; have := putG_len hok2.out; omega)
        have hnd := hide hg3.out
        go_wp2_with (first
          | (go_at_call 29; refine (isKeeper_c _ _).mono ?_; rintro e _ ⟨rfl, rfl⟩; rw [i1])
          | (go_at_call 30; refine (GameOkA_c A n c B p d E q f D g w3 hg3.out (fun b hb => by have := hD b hb; omega) hbn hbp hbq).mono ?_; rintro e w4 ⟨rfl, hb4⟩; rw [i2]; have hz4 := hb4.size; have hB4 := hAB.trans (hb4.mono (by omega)); have hr4 := hr0.below hb4 hr0.lt; clear rr0 rr1 rr2 rr3 rr4; obtain ⟨rr0, rr1, rr2, rr3, rr4, -⟩ := hr4.cells)
          | (go_at_call 31; refine (ReqOk_c r.1 r.2.1 r.2.2.1 r.2.2.2.1 r.2.2.2.2 w4).mono ?_; rintro e w5 ⟨rfl, hb5⟩; rw [show okR (r.1, r.2.1, r.2.2.1, r.2.2.2.1, r.2.2.2.2) = true from i3]; have hz5 := hb5.size; have hB5 := hB4.trans (hb5.mono (by omega)); have h35 := hb4.trans (hb5.mono hz4); have hz05 := hz0.below h35 hz0.lt; have hx5 := hx0.below h35 hx0.lt; have hr5 := hr0.below h35 hr0.lt; have hg5 := hide (hg3.out.below h35 (fun b hb => by have := hD b hb; omega)); clear yy0 yy1 yy2 yy3 yg0 yg1 yg2 yg3 xx0 xx1 xx2 rr0 rr1 rr2 rr3 rr4; obtain ⟨yy0, yy1, yy2, yy3, yg0, yg1, yg2, yg3⟩ := hz05.cells; obtain ⟨xx0, xx1, xx2, -, -, -⟩ := hx5.cells; obtain ⟨rr0, rr1, rr2, rr3, rr4, -⟩ := hr5.cells)
          | fail)
        clear i1 i2 i3
        have hly5 := hz05.lt
        refine (GameDo_c A n c B p d E q f D g r w5 hg5.out (fun b hb => by have := hD b hb; omega) hok.out hna.out).mono ?_
        rintro e w6 ⟨A6, n6, gB6, gE6, rfl, ho6, hb6⟩
        have hz6 := hb6.size
        have hB6 := hB5.trans (hb6.mono (by omega))
        have hA7 := (Below.refl w6.heap.size w6).alloc (Nat.le_refl _) (.cells #[.slice A6 n6 n6, .slice (some ⟨gB6, 0, none⟩) 16 16, .slice (some ⟨gE6, 0, none⟩) 4 4] 35)
        have ht8 := Bx3.made w6 (.slice A6 n6 n6) (.slice (some ⟨gB6, 0, none⟩) 16 16) (.slice (some ⟨gE6, 0, none⟩) 4 4) 35
        have h58 := hb6.trans (hA7.mono hz6)
        have hz8 := h58.size
        have hB8 := hB6.trans (hA7.mono (by omega))
        have hz08 := hz05.below h58 hz05.lt
        have hr8 := hr5.below h58 hr5.lt
        have hg8 := hide (ho6.below hA7).gmD
        have hsz8 : (w6.alloc (.cells #[.slice A6 n6 n6, .slice (some ⟨gB6, 0, none⟩) 16 16, .slice (some ⟨gE6, 0, none⟩) 4 4] 35)).heap.size = w6.heap.size + 1 := by simp
        clear yy0 yy1 yy2 yy3 yg0 yg1 yg2 yg3 xx0 xx1 xx2 rr0 rr1 rr2 rr3 rr4 ho6
        obtain ⟨yy0, yy1, yy2, yy3, yg0, yg1, yg2, yg3⟩ := hz08.cells
        obtain ⟨rr0, rr1, rr2, rr3, rr4, -⟩ := hr8.cells
        obtain ⟨tt0, tt1, tt2, -, -, -⟩ := ht8.cells
        go_wp2
        generalize w6.alloc (.cells #[.slice A6 n6 n6, .slice (some ⟨gB6, 0, none⟩) 16 16, .slice (some ⟨gE6, 0, none⟩) 4 4] 35) = w8 at *
        have hlr8 := hr8.lt
        have hlt8 := ht8.lt
        have hly8 := hz08.lt
        have hst : Stays (w.heap.size + 1) (some (.cells #[.int .i64 r.1, .int .i64 r.2.1, .int .i64 r.2.2.1, .int .i64 r.2.2.2.1, .int .i64 r.2.2.2.2] 37 (0, 0))) w8 := ⟨hr8⟩
        refine wp_region_T (Stays _ _) [37] [] [32] [0, 1, 2, 3, 4, 5, 6, 7, 8, 9] (by kernel_rfl) (by kernel_rfl) (by kernel_rfl) (Stays.drew hst) ?_; simp only [pickL, List.getElem?_cons_succ, List.getElem?_cons_zero]
        go_wp2_with (first
          | (go_at_call 16; have hq := hb9; refine (Crc_c (asS (putG (doG g r).1)) w9 hsz.out).mono ?_; rintro e w10 ⟨rfl, rfl⟩; rw [asS_list]; have hK := hK)
          | (go_at_call 17; refine (GamePut_c A6 n6 n6 (some ⟨gB6, 0, none⟩) 16 16 (some ⟨gE6, 0, none⟩) 4 4 _ (doG g r).1 _ (hg8.out.below (K := w8.heap.size) (Below.drew (Below.refl _ _)) (fun b hb => hb.2)) (fun b hb => hb.2) hok2.out).mono ?_; rintro e w9 ⟨rfl, hb9'⟩; have hb9 : Below w8.heap.size w8 w9 := Below.appR (Below.drew (Below.refl _ _)) hb9'; have hz9 := hb9.size; have hst9 : Stays (w.heap.size + 1) (some (.cells #[.int .i64 r.1, .int .i64 r.2.1, .int .i64 r.2.2.1, .int .i64 r.2.2.2.1, .int .i64 r.2.2.2.2] 37 (0, 0))) w9 := ⟨(hb9.block _ hlr8).trans hst.heap⟩; have hz09 := hz08.below hb9 hz08.lt; clear yy0 yy1 yy2 yy3 yg0 yg1 yg2 yg3; obtain ⟨yy0, yy1, yy2, yy3, yg0, yg1, yg2, yg3⟩ := hz09.cells; have hK := hK)
          | ((with_reducible refine Stays.and_ ?_ ?_); (focus (repeat (first | (with_reducible assumption) | (with_reducible refine Stays.drew ?_) | ((with_reducible refine Stays.cell ?_ ?_); rotate_left; (focus (first | (with_reducible assumption) | (simp; done) | (simp; omega))))))); intro hS) | ((with_reducible refine wpT_q0 ?_ ?_ ?_ ?_); (focus rfl); (focus rfl); (focus rfl); intro K hK) | ((with_reducible apply wpT_k); (focus rfl); (focus rfl); (focus rfl); (focus rfl); (focus (first | assumption | exact Stays.drew (by assumption))); (focus rfl); (focus go_simp); intro K hK) | ((with_reducible refine wpT_xs0 ?_ ?_ ?_); (focus rfl); (focus rfl); intro K hK) | ((with_reducible refine wpT_noL ?_ ?_); (focus (first | exact wanted_no _ _ _ rfl rfl rfl | exact wanted_un _ _ _ rfl rfl rfl)); simp only [setO, List.set_cons_succ, List.set_cons_zero]) | ((with_reducible refine wpT_q1 ?_ ?_ ?_ ?_); (focus exact wanted_yes _ _ _ rfl rfl rfl); (focus rfl); (focus rfl); intro K hK) | ((with_reducible refine wpT_xs1 ?_ ?_ ?_); (focus exact wanted_yes _ _ _ rfl rfl rfl); (focus rfl); intro K hK) | ((with_reducible refine wpT_nil ?_); try dsimp only)
          | fail)
        refine bodyPost_ret (v := .tuple #[.agg #[.int .i64 frm, .int .i64 r.2.1, .int .i64 (doG g r).2, .int .i64 (crcN (putG (doG g r).1) : Int)], .bool true]) (by simp [results, Tryd.results9, go_sem, yy0, yy1, yy2, yy3, yg0, yg1, yg2, yg3]) rfl ?_
        rw [hres.out]
        have hB9 := hB8.trans (hb9.mono (by omega))
        exact ⟨rfl, by first | exact hB9 | exact (((hB9.setCell (p := ⟨w.heap.size + 2, 0, none⟩) (by simp) _).setCell (p := ⟨w.heap.size + 2, 1, none⟩) (by simp) _).setCell (p := ⟨w.heap.size + 2, 2, none⟩) (by simp) _).setCell (p := ⟨w.heap.size + 2, 3, none⟩) (by simp) _⟩
set_option maxRecDepth 100000 in
set_option maxHeartbeats 4000000 in
theorem ReplyOfS_c (frm : Int) (A : Option Addr) (n c : Nat) (B : Option Addr) (p d : Nat) (E : Option Addr) (q f : Nat) (D : Nat → Prop) (g : GameT) (r : ReqV) (w : World) (hg : GmD w D A n c B p d E q f g) (hD : ∀ b, D b → b < w.heap.size) (hbn : n ≤ 1048576) (hbp : p ≤ 1048576) (hbq : q ≤ 1048576) :
    Calls Tryd.prog 6 #[.int .i64 frm, .agg #[.slice A n c, .slice B p d, .slice E q f], .agg #[.int .i64 r.1, .int .i64 r.2.1, .int .i64 r.2.2.1, .int .i64 r.2.2.2.1, .int .i64 r.2.2.2.2]] w fun e w' => AnsP w (ansR frm g r) e w' := by
  have hAB : Below w.heap.size w (((w.alloc (.cells #[.slice A n c, .slice B p d, .slice E q f] 35)).alloc (.cells #[.int .i64 r.1, .int .i64 r.2.1, .int .i64 r.2.2.1, .int .i64 r.2.2.2.1, .int .i64 r.2.2.2.2] 37)).alloc (.cells #[.int .i64 0, .int .i64 0, .int .i64 0, .int .i64 0] 30)) := (((Below.refl w.heap.size w).alloc (Nat.le_refl _) _).alloc (by simp) _).alloc (by simp; omega) _
  have hx0 : Bx3 (((w.alloc (.cells #[.slice A n c, .slice B p d, .slice E q f] 35)).alloc (.cells #[.int .i64 r.1, .int .i64 r.2.1, .int .i64 r.2.2.1, .int .i64 r.2.2.2.1, .int .i64 r.2.2.2.2] 37)).alloc (.cells #[.int .i64 0, .int .i64 0, .int .i64 0, .int .i64 0] 30)) w.heap.size (.slice A n c) (.slice B p d) (.slice E q f) 35 := ((Bx3.made w (.slice A n c) (.slice B p d) (.slice E q f) 35).alloc _).alloc _
  have hr0 : Bx5 (((w.alloc (.cells #[.slice A n c, .slice B p d, .slice E q f] 35)).alloc (.cells #[.int .i64 r.1, .int .i64 r.2.1, .int .i64 r.2.2.1, .int .i64 r.2.2.2.1, .int .i64 r.2.2.2.2] 37)).alloc (.cells #[.int .i64 0, .int .i64 0, .int .i64 0, .int .i64 0] 30)) (w.heap.size + 1) r 37 := by
    have h2 := (Bx5.made (w.alloc (.cells #[.slice A n c, .slice B p d, .slice E q f] 35)) r 37).below ((Below.refl _ _).alloc (Nat.le_refl _) (.cells #[.int .i64 0, .int .i64 0, .int .i64 0, .int .i64 0] 30)) (by simp)
    simp only [World.size_alloc] at h2
    exact h2
  have hz0 : Bx4 (((w.alloc (.cells #[.slice A n c, .slice B p d, .slice E q f] 35)).alloc (.cells #[.int .i64 r.1, .int .i64 r.2.1, .int .i64 r.2.2.1, .int .i64 r.2.2.2.1, .int .i64 r.2.2.2.2] 37)).alloc (.cells #[.int .i64 0, .int .i64 0, .int .i64 0, .int .i64 0] 30)) (w.heap.size + 2) (.int .i64 0) (.int .i64 0) (.int .i64 0) (.int .i64 0) 30 := by
    have h2 := Bx4.made ((w.alloc (.cells #[.slice A n c, .slice B p d, .slice E q f] 35)).alloc (.cells #[.int .i64 r.1, .int .i64 r.2.1, .int .i64 r.2.2.1, .int .i64 r.2.2.2.1, .int .i64 r.2.2.2.2] 37)) (.int .i64 0) (.int .i64 0) (.int .i64 0) (.int .i64 0) 30
    simp only [World.size_alloc] at h2
    exact h2
  have hz3 : w.heap.size + 3 ≤ (((w.alloc (.cells #[.slice A n c, .slice B p d, .slice E q f] 35)).alloc (.cells #[.int .i64 r.1, .int .i64 r.2.1, .int .i64 r.2.2.1, .int .i64 r.2.2.2.1, .int .i64 r.2.2.2.2] 37)).alloc (.cells #[.int .i64 0, .int .i64 0, .int .i64 0, .int .i64 0] 30)).heap.size := by simp only [World.size_alloc]; omega
  have hg3 := hide (hg.below hAB hD)
  have hn' := hide hg.en.len
  have hp' := hide hg.fl.len
  have hq' := hide hg.la.len
  clear hg
  obtain ⟨xx0, xx1, xx2, -, -, -⟩ := hx0.cells
  obtain ⟨rr0, rr1, rr2, rr3, rr4, -⟩ := hr0.cells
  obtain ⟨yy0, yy1, yy2, yy3, yg0, yg1, yg2, yg3⟩ := hz0.cells
  have hnot : Hid (∀ (h : ¬ (inB frm 0 3 = true ∧ okB g = true ∧ okR r = true)), ansR frm g r = ((0, 0, 0, 0), false)) := hide (fun h => if_neg h)
  go_enter Tryd.func6, Tryd.ntmps6
  go_wp2_with fail
  generalize (((w.alloc (.cells #[.slice A n c, .slice B p d, .slice E q f] 35)).alloc (.cells #[.int .i64 r.1, .int .i64 r.2.1, .int .i64 r.2.2.1, .int .i64 r.2.2.2.1, .int .i64 r.2.2.2.2] 37)).alloc (.cells #[.int .i64 0, .int .i64 0, .int .i64 0, .int .i64 0] 30)) = w3 at *
  cases i1 : inB frm 0 3
  · have hres := hide (hnot.out (fun h => by rw [i1] at h; cases h.1))
    go_wp2_with (first
      | (go_at_call 20; refine (l1In_c _ _ _ _).mono ?_; rintro e _ ⟨rfl, rfl⟩; rw [i1])
      | fail)
    refine bodyPost_ret (v := .tuple #[.agg #[.int .i64 0, .int .i64 0, .int .i64 0, .int .i64 0], .bool false]) (by simp [results, Tryd.results6, go_sem, yy0, yy1, yy2, yy3, yg0, yg1, yg2, yg3]) rfl ?_
    rw [hres.out]
    exact ⟨rfl, by first | exact hAB | exact (((hAB.setCell (p := ⟨w.heap.size + 2, 0, none⟩) (by simp) _).setCell (p := ⟨w.heap.size + 2, 1, none⟩) (by simp) _).setCell (p := ⟨w.heap.size + 2, 2, none⟩) (by simp) _).setCell (p := ⟨w.heap.size + 2, 3, none⟩) (by simp) _⟩
  · cases i2 : okB g
    · have hres := hide (hnot.out (fun h => by rw [i2] at h; cases h.2.1))
      go_wp2_with (first
        | (go_at_call 20; refine (l1In_c _ _ _ _).mono ?_; rintro e _ ⟨rfl, rfl⟩; rw [i1])
        | (go_at_call 21; refine (l2Ok_c A n c B p d E q f D g w3 hg3.out (fun b hb => by have := hD b hb; omega) hbn hbp hbq).mono ?_; rintro e w4 ⟨rfl, hb4⟩; rw [i2]; have hz4 := hb4.size; have hB4 := hAB.trans (hb4.mono (by omega)); have hz04 := hz0.below hb4 hz0.lt; clear yy0 yy1 yy2 yy3 yg0 yg1 yg2 yg3; obtain ⟨yy0, yy1, yy2, yy3, yg0, yg1, yg2, yg3⟩ := hz04.cells)
        | fail)
      refine bodyPost_ret (v := .tuple #[.agg #[.int .i64 0, .int .i64 0, .int .i64 0, .int .i64 0], .bool false]) (by simp [results, Tryd.results6, go_sem, yy0, yy1, yy2, yy3, yg0, yg1, yg2, yg3]) rfl ?_
      rw [hres.out]
      exact ⟨rfl, by first | exact hB4 | exact (((hB4.setCell (p := ⟨w.heap.size + 2, 0, none⟩) (by simp) _).setCell (p := ⟨w.heap.size + 2, 1, none⟩) (by simp) _).setCell (p := ⟨w.heap.size + 2, 2, none⟩) (by simp) _).setCell (p := ⟨w.heap.size + 2, 3, none⟩) (by simp) _⟩
    · cases i3 : okR r
      · have hres := hide (hnot.out (fun h => by rw [i3] at h; cases h.2.2))
        go_wp2_with (first
          | (go_at_call 20; refine (l1In_c _ _ _ _).mono ?_; rintro e _ ⟨rfl, rfl⟩; rw [i1])
          | (go_at_call 21; refine (l2Ok_c A n c B p d E q f D g w3 hg3.out (fun b hb => by have := hD b hb; omega) hbn hbp hbq).mono ?_; rintro e w4 ⟨rfl, hb4⟩; rw [i2]; have hz4 := hb4.size; have hB4 := hAB.trans (hb4.mono (by omega)); have hr4 := hr0.below hb4 hr0.lt; clear rr0 rr1 rr2 rr3 rr4; obtain ⟨rr0, rr1, rr2, rr3, rr4, -⟩ := hr4.cells)
          | (go_at_call 22; refine (l1Ok_c r.1 r.2.1 r.2.2.1 r.2.2.2.1 r.2.2.2.2 w4).mono ?_; rintro e w5 ⟨rfl, hb5⟩; rw [show okR (r.1, r.2.1, r.2.2.1, r.2.2.2.1, r.2.2.2.2) = false from i3]; have hz5 := hb5.size; have hB5 := hB4.trans (hb5.mono (by omega)); have hz05 := (hz0.below hb4 hz0.lt).below hb5 (by have := hz0.lt; omega); clear yy0 yy1 yy2 yy3 yg0 yg1 yg2 yg3; obtain ⟨yy0, yy1, yy2, yy3, yg0, yg1, yg2, yg3⟩ := hz05.cells)
          | fail)
        refine bodyPost_ret (v := .tuple #[.agg #[.int .i64 0, .int .i64 0, .int .i64 0, .int .i64 0], .bool false]) (by simp [results, Tryd.results6, go_sem, yy0, yy1, yy2, yy3, yg0, yg1, yg2, yg3]) rfl ?_
        rw [hres.out]
        exact ⟨rfl, by first | exact hB5 | exact (((hB5.setCell (p := ⟨w.heap.size + 2, 0, none⟩) (by simp) _).setCell (p := ⟨w.heap.size + 2, 1, none⟩) (by simp) _).setCell (p := ⟨w.heap.size + 2, 2, none⟩) (by simp) _).setCell (p := ⟨w.heap.size + 2, 3, none⟩) (by simp) _⟩
      · have hres := hide (show ansR frm g r = ((frm, r.2.1, (doG g r).2, (crcN (putG (doG g r).1) : Int)), true) from if_pos ⟨i1, i2, i3⟩)
        have hok := hide ((okB_iff g).1 i2)
        have hna := hide (okR_NA i3)
        have hok2 := hide (doG_ok hok.out hna.out)
        have hsz := hide (show (asS (putG (doG g r).1)).size ≤ 1048576 by rw [asS_size]; have := putG_len hok2.out; omega)
        have hnd := hide hg3.out
        go_wp2_with (first
          | (go_at_call 20; refine (l1In_c _ _ _ _).mono ?_; rintro e _ ⟨rfl, rfl⟩; rw [i1])
          | (go_at_call 21; refine (l2Ok_c A n c B p d E q f D g w3 hg3.out (fun b hb => by have := hD b hb; omega) hbn hbp hbq).mono ?_; rintro e w4 ⟨rfl, hb4⟩; rw [i2]; have hz4 := hb4.size; have hB4 := hAB.trans (hb4.mono (by omega)); have hr4 := hr0.below hb4 hr0.lt; clear rr0 rr1 rr2 rr3 rr4; obtain ⟨rr0, rr1, rr2, rr3, rr4, -⟩ := hr4.cells)
          | (go_at_call 22; refine (l1Ok_c r.1 r.2.1 r.2.2.1 r.2.2.2.1 r.2.2.2.2 w4).mono ?_; rintro e w5 ⟨rfl, hb5⟩; rw [show okR (r.1, r.2.1, r.2.2.1, r.2.2.2.1, r.2.2.2.2) = true from i3]; have hz5 := hb5.size; have hB5 := hB4.trans (hb5.mono (by omega)); have h35 := hb4.trans (hb5.mono hz4); have hz05 := hz0.below h35 hz0.lt; have hx5 := hx0.below h35 hx0.lt; have hr5 := hr0.below h35 hr0.lt; have hg5 := hide (hg3.out.below h35 (fun b hb => by have := hD b hb; omega)); clear yy0 yy1 yy2 yy3 yg0 yg1 yg2 yg3 xx0 xx1 xx2 rr0 rr1 rr2 rr3 rr4; obtain ⟨yy0, yy1, yy2, yy3, yg0, yg1, yg2, yg3⟩ := hz05.cells; obtain ⟨xx0, xx1, xx2, -, -, -⟩ := hx5.cells; obtain ⟨rr0, rr1, rr2, rr3, rr4, -⟩ := hr5.cells)
          | fail)
        clear i1 i2 i3
        have hly5 := hz05.lt
        have hK5 : w5.heap.size ≤ w5.heap.size := Nat.le_refl _
        have hlx5 := hx5.lt
        have hlr5 := hr5.lt
        go_wp2
        refine wp_region_O (SinceB (w5.heap.size) _) [] [] [25, 27] (Ord.seg [0, 2] (Ord.both 1 7 (Ord.seg [] (Ord.both 3 7 (Ord.seg [4, 5, 6, 7, 8, 9] Ord.done) (Ord.seg [3, 4, 5, 6, 8, 9] Ord.done))) (Ord.seg [1, 3, 4, 5, 6, 8, 9] Ord.done))) (by kernel_rfl) (by kernel_rfl) (by kernel_rfl) (SinceB.drew _ _) ?_
        go_wp2_with (first
          | (go_at_call 23; have hq := hbC; refine (l2Do_c A4 n4 c4 B4 p4 d4 E4 q4 f4 _ g r _ (hgC.below (K := wC.heap.size) (by focus (repeat (first | (with_reducible exact Below.refl _ _) | (with_reducible refine Below.allocR ?_ _)))) (fun b hb => hb.elim (fun h => h.elim) (fun h => h.2))) (fun b hb => by first | exact hb.elim (fun h => h.elim) (fun h => h.2) | (have := hb.elim (fun h => h.elim) (fun h => h.2); simp only [World.size_alloc]; omega)) hok.out.weak hna.out).mono ?_; rintro e wD ⟨A6, n6, c6, B6, p6, d6, E6, q6, f6, rfl, hgD, hbD⟩; have hSD : SinceB (w5.heap.size) w5 wD := (by (focus (repeat (first | (with_reducible exact SinceB.refl _ _) | (with_reducible refine SinceB.drewR ?_) | (with_reducible refine SinceB.allocK ?_ hK5 _) | (with_reducible refine SinceB.app ?_ hbD hK5) | (with_reducible refine SinceB.app ?_ hbC hK5))))); have h5D : Below w5.heap.size w5 wD := (by (focus (repeat (first | (with_reducible exact Below.refl _ _) | (with_reducible refine Below.drew ?_) | (with_reducible refine Below.allocR ?_ _) | (with_reducible refine Below.appR ?_ hbD) | (with_reducible refine Below.appR ?_ hbC))))); have hzD := h5D.size; have hzDD := hbD.size; (first | (have hbz := ((Bx3.newE (v0 := .slice none 0 0) (v1 := .slice none 0 0) (v2 := .slice none 0 0) (t := 35) (w := w5.drew) (b := w5.heap.size) rfl).app hbC).app hbD; obtain ⟨tt0, tt1, tt2, tg0, tg1, tg2⟩ := hbz.cells) | (have hbz := (Bx3.newE (v0 := .slice none 0 0) (v1 := .slice none 0 0) (v2 := .slice none 0 0) (t := 35) (w := wC) (b := wC.heap.size) rfl).app hbD; obtain ⟨tt0, tt1, tt2, tg0, tg1, tg2⟩ := hbz.cells) | skip); (try simp only [World.size_alloc, World.size_drew] at hzDD); have hK := hK)
          | (go_at_call 24; refine (l2Copy_c A n c B p d E q f D g _ (hg5.out.below (K := w5.heap.size) (by (focus (repeat (first | (with_reducible exact Below.refl _ _) | (with_reducible refine Below.drew ?_) | (with_reducible refine Below.allocR ?_ _) | (with_reducible refine Below.appR ?_ hbD) | (with_reducible refine Below.appR ?_ hbC))))) (fun b hb => by have := hD b hb; omega)) (fun b hb => by have := hD b hb; (try simp only [World.size_alloc, World.size_drew]); omega) (okGD_len hok.out)).mono ?_; rintro e wC ⟨A4, n4, c4, B4, p4, d4, E4, q4, f4, rfl, hgC, hbC⟩; have hSC : SinceB (w5.heap.size) w5 wC := (by (focus (repeat (first | (with_reducible exact SinceB.refl _ _) | (with_reducible refine SinceB.drewR ?_) | (with_reducible refine SinceB.allocK ?_ hK5 _) | (with_reducible refine SinceB.app ?_ hbD hK5) | (with_reducible refine SinceB.app ?_ hbC hK5))))); have h5C : Below w5.heap.size w5 wC := (by (focus (repeat (first | (with_reducible exact Below.refl _ _) | (with_reducible refine Below.drew ?_) | (with_reducible refine Below.allocR ?_ _) | (with_reducible refine Below.appR ?_ hbD) | (with_reducible refine Below.appR ?_ hbC))))); have hzC := h5C.size; have hzCC := hbC.size; have hK := hK)
          | ((with_reducible refine wpO_seg ?_); simp only [pickL, List.toList_toArray, List.getElem?_cons_succ, List.getElem?_cons_zero]) | ((with_reducible refine wpO_both ?_ ?_) <;> simp only [pickL, List.toList_toArray, List.getElem?_cons_succ, List.getElem?_cons_zero]) | ((with_reducible refine wpO_three ?_ ?_ ?_) <;> simp only [pickL, List.toList_toArray, List.getElem?_cons_succ, List.getElem?_cons_zero]) | ((with_reducible refine wpO_done ?_); try dsimp only) | (with_reducible refine SinceB.and_ ?_ ?_; (focus (repeat (first | (with_reducible exact SinceB.refl _ _) | (with_reducible assumption) | (with_reducible refine SinceB.drewR ?_) | ((with_reducible refine SinceB.alloc ?_ ?_ _); rotate_left; (focus (first | (with_reducible assumption) | (simp; done) | (simp; omega) | omega))) | ((with_reducible refine SinceB.set ?_ ?_ _); rotate_left; (focus (first | omega | (simp; done) | (simp; omega))))))); intro hS) | ((with_reducible refine wpT_noL ?_ ?_); (focus (first | exact wanted_no _ _ _ rfl rfl rfl | exact wanted_un _ _ _ rfl rfl rfl)); simp only [setO, List.set_cons_succ, List.set_cons_zero]) | ((with_reducible refine wpT_q0 ?_ ?_ ?_ ?_); (focus rfl); (focus rfl); (focus rfl); intro K hK) | ((with_reducible refine wpT_i ?_ ?_); (focus (refine ⟨_, _, _, _, _, _, _, _, rfl, rfl, rfl, rfl, rfl, ?_⟩; omega)); intro K hK) | ((with_reducible refine wpT_ncw ?_ ?_ ?_); (focus (first | exact .inl rfl | exact .inr (wanted_yes _ _ _ rfl rfl rfl))); (focus exact ⟨_, _, rfl, rfl, rfl⟩); intro K hK) | ((with_reducible apply wpT_lB); (focus rfl); (focus rfl); (focus rfl); (focus rfl); (focus (first | exact SinceB.drew _ _ | (with_reducible assumption))); (focus (simp <;> omega)); (focus go_simp); intro K hK) | ((with_reducible apply wpT_lwB); (focus exact wanted_yes _ _ _ rfl rfl rfl); (focus rfl); (focus rfl); (focus rfl); (focus (first | exact SinceB.drew _ _ | (with_reducible assumption))); (focus (simp <;> omega)); (focus go_simp); intro K hK) | ((with_reducible refine wpT_xs0 ?_ ?_ ?_); (focus rfl); (focus rfl); intro K hK) | ((with_reducible refine wpT_q1 ?_ ?_ ?_ ?_); (focus exact wanted_yes _ _ _ rfl rfl rfl); (focus rfl); (focus rfl); intro K hK) | ((with_reducible refine wpT_xs1 ?_ ?_ ?_); (focus exact wanted_yes _ _ _ rfl rfl rfl); (focus rfl); intro K hK) | ((with_reducible refine wpT_nil ?_); try dsimp only)
          | fail)
        all_goals (try (refine leafW (fun W => Bx3 W wC.heap.size (.slice A6 n6 c6) (.slice B6 p6 d6) (.slice E6 q6 f6) 35 ∧ Below w5.heap.size w5 W ∧ GmD W (fun b => w5.heap.size ≤ b ∧ b < W.heap.size) A6 n6 c6 B6 p6 d6 E6 q6 f6 (doG g r).1) (fin8 hbz h5D (by omega) hgD (fun b hb => by rcases hb with (hb | hb) | hb; exact hb.elim; (have hb1 := hb.1; have hb2 := hb.2; have hzq := hzC; have hzq2 := h5D.size; have hzq3 := hbD.size; have hzq4 := hbC.size; (try simp only [World.size_drew, World.size_alloc] at hb1); (try simp only [World.size_drew, World.size_alloc] at hzq3); (try simp only [World.size_drew, World.size_alloc] at hzq4); omega); (have hb1 := hb.1; have hb2 := hb.2; have hzq := hzC; have hzq2 := h5D.size; have hzq3 := hbD.size; have hzq4 := hbC.size; (try simp only [World.size_drew, World.size_alloc] at hb1); (try simp only [World.size_drew, World.size_alloc] at hzq3); (try simp only [World.size_drew, World.size_alloc] at hzq4); omega))) ?_))
        all_goals (try (refine leafW (fun W => Bx3 W wD.heap.size (.slice A6 n6 c6) (.slice B6 p6 d6) (.slice E6 q6 f6) 35 ∧ Below w5.heap.size w5 W ∧ GmD W (fun b => w5.heap.size ≤ b ∧ b < W.heap.size) A6 n6 c6 B6 p6 d6 E6 q6 f6 (doG g r).1) (fin9 h5D hgD (fun b hb => by rcases hb with (hb | hb) | hb; exact hb.elim; (have hb1 := hb.1; have hb2 := hb.2; have hzq := hzC; have hzq2 := h5D.size; have hzq3 := hbD.size; have hzq4 := hbC.size; (try simp only [World.size_drew, World.size_alloc] at hb1); (try simp only [World.size_drew, World.size_alloc] at hzq3); (try simp only [World.size_drew, World.size_alloc] at hzq4); omega); (have hb1 := hb.1; have hb2 := hb.2; have hzq := hzC; have hzq2 := h5D.size; have hzq3 := hbD.size; have hzq4 := hbC.size; (try simp only [World.size_drew, World.size_alloc] at hb1); (try simp only [World.size_drew, World.size_alloc] at hzq3); (try simp only [World.size_drew, World.size_alloc] at hzq4); omega))) ?_))
        all_goals (try (refine leafW (fun W => Bx3 W w5.heap.size (.slice A6 n6 c6) (.slice B6 p6 d6) (.slice E6 q6 f6) 35 ∧ Below w5.heap.size w5 W ∧ GmD W (fun b => w5.heap.size ≤ b ∧ b < W.heap.size) A6 n6 c6 B6 p6 d6 E6 q6 f6 (doG g r).1) (fin8 hbz h5D (by omega) hgD (fun b hb => by rcases hb with (hb | hb) | hb; exact hb.elim; (have hb1 := hb.1; have hb2 := hb.2; have hzq := hzC; have hzq2 := h5D.size; have hzq3 := hbD.size; have hzq4 := hbC.size; (try simp only [World.size_drew, World.size_alloc] at hb1); (try simp only [World.size_drew, World.size_alloc] at hzq3); (try simp only [World.size_drew, World.size_alloc] at hzq4); omega); (have hb1 := hb.1; have hb2 := hb.2; have hzq := hzC; have hzq2 := h5D.size; have hzq3 := hbD.size; have hzq4 := hbC.size; (try simp only [World.size_drew, World.size_alloc] at hb1); (try simp only [World.size_drew, World.size_alloc] at hzq3); (try simp only [World.size_drew, World.size_alloc] at hzq4); omega))) ?_))
        all_goals
          rintro w8 ⟨ht8, h58, hg8'⟩
          have hg8 := hide hg8'
          have hB8 := hB5.trans (h58.mono (by omega))
          have hz8 := h58.size
          have hz08 := hz05.below h58 hz05.lt
          have hr8 := hr5.below h58 hr5.lt
          clear yy0 yy1 yy2 yy3 yg0 yg1 yg2 yg3 xx0 xx1 xx2 rr0 rr1 rr2 rr3 rr4 hg8' hgD hgC
          obtain ⟨yy0, yy1, yy2, yy3, yg0, yg1, yg2, yg3⟩ := hz08.cells
          obtain ⟨rr0, rr1, rr2, rr3, rr4, -⟩ := hr8.cells
          obtain ⟨tt0, tt1, tt2, -, -, -⟩ := ht8.cells
          have hlr8 := hr8.lt
          have hlt8 := ht8.lt
          have hly8 := hz08.lt
          have hst : Stays (w.heap.size + 1) (some (.cells #[.int .i64 r.1, .int .i64 r.2.1, .int .i64 r.2.2.1, .int .i64 r.2.2.2.1, .int .i64 r.2.2.2.2] 37 (0, 0))) w8 := ⟨hr8⟩
          refine wp_region_T (Stays _ _) [37] [] [33] [0, 1, 2, 3, 4, 5, 6, 7, 8, 9] (by kernel_rfl) (by kernel_rfl) (by kernel_rfl) (Stays.drew hst) ?_; simp only [pickL, List.getElem?_cons_succ, List.getElem?_cons_zero]
          go_wp2_with (first
            | (go_at_call 25; have hq := hb9; refine (l7Crc_c (asS (putG (doG g r).1)) w9 hsz.out).mono ?_; rintro e w10 ⟨rfl, rfl⟩; rw [asS_list]; have hK := hK)
            | (go_at_call 26; refine (l2Put_c A6 n6 c6 B6 p6 d6 E6 q6 f6 _ (doG g r).1 _ (hg8.out.below (K := w8.heap.size) (Below.drew (Below.refl _ _)) (fun b hb => hb.2)) (fun b hb => hb.2) hok2.out).mono ?_; rintro e w9 ⟨rfl, hb9'⟩; have hb9 : Below w8.heap.size w8 w9 := Below.appR (Below.drew (Below.refl _ _)) hb9'; have hz9 := hb9.size; have hst9 : Stays (w.heap.size + 1) (some (.cells #[.int .i64 r.1, .int .i64 r.2.1, .int .i64 r.2.2.1, .int .i64 r.2.2.2.1, .int .i64 r.2.2.2.2] 37 (0, 0))) w9 := ⟨(hb9.block _ hlr8).trans hst.heap⟩; have hz09 := hz08.below hb9 hz08.lt; clear yy0 yy1 yy2 yy3 yg0 yg1 yg2 yg3; obtain ⟨yy0, yy1, yy2, yy3, yg0, yg1, yg2, yg3⟩ := hz09.cells; have hK := hK)
            | ((with_reducible refine Stays.and_ ?_ ?_); (focus (repeat (first | (with_reducible assumption) | (with_reducible refine Stays.drew ?_) | ((with_reducible refine Stays.cell ?_ ?_); rotate_left; (focus (first | (with_reducible assumption) | (simp; done) | (simp; omega))))))); intro hS) | ((with_reducible refine wpT_q0 ?_ ?_ ?_ ?_); (focus rfl); (focus rfl); (focus rfl); intro K hK) | ((with_reducible apply wpT_k); (focus rfl); (focus rfl); (focus rfl); (focus rfl); (focus (first | assumption | exact Stays.drew (by assumption))); (focus rfl); (focus go_simp); intro K hK) | ((with_reducible refine wpT_xs0 ?_ ?_ ?_); (focus rfl); (focus rfl); intro K hK) | ((with_reducible refine wpT_noL ?_ ?_); (focus (first | exact wanted_no _ _ _ rfl rfl rfl | exact wanted_un _ _ _ rfl rfl rfl)); simp only [setO, List.set_cons_succ, List.set_cons_zero]) | ((with_reducible refine wpT_q1 ?_ ?_ ?_ ?_); (focus exact wanted_yes _ _ _ rfl rfl rfl); (focus rfl); (focus rfl); intro K hK) | ((with_reducible refine wpT_xs1 ?_ ?_ ?_); (focus exact wanted_yes _ _ _ rfl rfl rfl); (focus rfl); intro K hK) | ((with_reducible refine wpT_nil ?_); try dsimp only)
            | fail)
          refine bodyPost_ret (v := .tuple #[.agg #[.int .i64 frm, .int .i64 r.2.1, .int .i64 (doG g r).2, .int .i64 (crcN (putG (doG g r).1) : Int)], .bool true]) (by simp [results, Tryd.results6, go_sem, yy0, yy1, yy2, yy3, yg0, yg1, yg2, yg3]) rfl ?_
          rw [hres.out]
          have hB9 := hB8.trans (hb9.mono (by omega))
          exact ⟨rfl, by first | exact hB9 | exact (((hB9.setCell (p := ⟨w.heap.size + 2, 0, none⟩) (by simp) _).setCell (p := ⟨w.heap.size + 2, 1, none⟩) (by simp) _).setCell (p := ⟨w.heap.size + 2, 2, none⟩) (by simp) _).setCell (p := ⟨w.heap.size + 2, 3, none⟩) (by simp) _⟩
end Go.Proofs.YtajmfonepnkofaaDoor
