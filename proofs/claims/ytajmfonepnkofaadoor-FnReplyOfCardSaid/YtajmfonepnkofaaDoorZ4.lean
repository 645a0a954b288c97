/-
  What 'IP' rests on, part 4 of 11 (texts of this seat put together: HF HG HJ BaseE).
  Conditions: none.
-/
import Derived.Test.YtajmfonepnkofaaDoorZ3
namespace Go.Proofs.YtajmfonepnkofaaDoor
open Go.RowKit Rg
set_option linter.unusedVariables false
set_option linter.unusedSimpArgs false

theorem GmPost2.same {w w' : World} {D : Nat → Prop} {A : Option Addr} {n c : Nat} {B : Option Addr} {p d : Nat} {E : Option Addr} {q f : Nat} {g : GameT} (code : Int) (hg : GmD w D A n c B p d E q f g) (hD : ∀ b, D b → b < w.heap.size) (hB : Below w.heap.size w w') :
    GmPost2 w D (g, code) (.returned (.tuple #[.agg #[.slice A n c, .slice B p d, .slice E q f], .int .i64 code])) w' :=
  ⟨A, n, c, B, p, d, E, q, f, rfl, (hg.below hB hD).mono fun b hb => .inl hb, hB⟩
/-- A box of five numbers. -/
def Bx5 (w : World) (b : Nat) (e : EntT) (t : TypeId) : Prop := w.heap[b]? = some (.cells #[.int .i64 e.1, .int .i64 e.2.1, .int .i64 e.2.2.1, .int .i64 e.2.2.2.1, .int .i64 e.2.2.2.2] t (0, 0))
section
variable {w w' : World} {b : Nat} {e : EntT} {t : TypeId}
theorem Bx5.made (w : World) (e : EntT) (t : TypeId) : Bx5 (w.alloc (.cells #[.int .i64 e.1, .int .i64 e.2.1, .int .i64 e.2.2.1, .int .i64 e.2.2.2.1, .int .i64 e.2.2.2.2] t)) w.heap.size e t := heap_alloc_new w _
theorem Bx5.lt (h : Bx5 w b e t) : b < w.heap.size := lt_of_heap h
theorem Bx5.keep (h : Bx5 w b e t) (hb : w'.heap[b]? = w.heap[b]?) : Bx5 w' b e t := hb.trans h
theorem Bx5.below {K : Nat} (h : Bx5 w b e t) (hb : Below K w w') (hK : b < K) : Bx5 w' b e t := (hb.block b hK).trans h
theorem Bx5.cells (h : Bx5 w b e t) : w.cell? ⟨b, 0, none⟩ = some (.int .i64 e.1) ∧ w.cell? ⟨b, 1, none⟩ = some (.int .i64 e.2.1) ∧ w.cell? ⟨b, 2, none⟩ = some (.int .i64 e.2.2.1) ∧ w.cell? ⟨b, 3, none⟩ = some (.int .i64 e.2.2.2.1) ∧ w.cell? ⟨b, 4, none⟩ = some (.int .i64 e.2.2.2.2) ∧
    w.frozen? ⟨b, 0, none⟩ = false ∧ w.frozen? ⟨b, 1, none⟩ = false ∧ w.frozen? ⟨b, 2, none⟩ = false ∧ w.frozen? ⟨b, 3, none⟩ = false ∧ w.frozen? ⟨b, 4, none⟩ = false := by
  unfold Bx5 at h
  refine ⟨?_, ?_, ?_, ?_, ?_, ?_, ?_, ?_, ?_, ?_⟩ <;> first | (simp only [World.cell?, h]; rfl) | (simp [World.frozen?, h])
theorem Bx5.set1 (h : Bx5 w b e t) (u : Int) : Bx5 (w.setCell ⟨b, 1, none⟩ (.int .i64 u)) b (e.1, u, e.2.2.1, e.2.2.2.1, e.2.2.2.2) t := by
  unfold Bx5 at *; simp [World.setCell, Array.getElem?_modify, h]
theorem Bx5.set2 (h : Bx5 w b e t) (u : Int) : Bx5 (w.setCell ⟨b, 2, none⟩ (.int .i64 u)) b (e.1, e.2.1, u, e.2.2.2.1, e.2.2.2.2) t := by
  unfold Bx5 at *; simp [World.setCell, Array.getElem?_modify, h]
theorem Bx5.set4 (h : Bx5 w b e t) (u : Int) : Bx5 (w.setCell ⟨b, 4, none⟩ (.int .i64 u)) b (e.1, e.2.1, e.2.2.1, e.2.2.2.1, u) t := by
  unfold Bx5 at *; simp [World.setCell, Array.getElem?_modify, h]
end
/-- The boxes of 'l2Act': the game, the ask, the game returned, the figure. -/
structure Ga (w w2 : World) (V0 V1 V2 : Value) (r : AskT) (e : EntT) : Prop where
  bx : Bx3 w2 w.heap.size V0 V1 V2 35
  br : Bx5 w2 (w.heap.size + 1) r 37
  ry : Bx3 w2 (w.heap.size + 1 + 1) (.slice none 0 0) (.slice none 0 0) (.slice none 0 0) 35
  be : Bx5 w2 (w.heap.size + 1 + 1 + 1) e 82
  sz : w.heap.size + 4 ≤ w2.heap.size
  bel : Below w.heap.size w w2
section
variable {w w2 w3 : World} {V0 V1 V2 : Value} {r : AskT} {e : EntT}
theorem Ga.made (w : World) (V0 V1 V2 : Value) (r : AskT) (e : EntT) : Ga w ((((w.alloc (.cells #[V0, V1, V2] 35)).alloc (.cells #[.int .i64 r.1, .int .i64 r.2.1, .int .i64 r.2.2.1, .int .i64 r.2.2.2.1, .int .i64 r.2.2.2.2] 37)).alloc (.cells #[.slice none 0 0, .slice none 0 0, .slice none 0 0] 35)).alloc (.cells #[.int .i64 e.1, .int .i64 e.2.1, .int .i64 e.2.2.1, .int .i64 e.2.2.2.1, .int .i64 e.2.2.2.2] 82)) V0 V1 V2 r e := by
  have h1 := Bx3.made w V0 V1 V2 35
  have h2 := Bx5.made (w.alloc (.cells #[V0, V1, V2] 35)) r 37
  have h3 := Bx3.made ((w.alloc (.cells #[V0, V1, V2] 35)).alloc (.cells #[.int .i64 r.1, .int .i64 r.2.1, .int .i64 r.2.2.1, .int .i64 r.2.2.2.1, .int .i64 r.2.2.2.2] 37)) (.slice none 0 0) (.slice none 0 0) (.slice none 0 0) 35
  have h4 := Bx5.made (((w.alloc (.cells #[V0, V1, V2] 35)).alloc (.cells #[.int .i64 r.1, .int .i64 r.2.1, .int .i64 r.2.2.1, .int .i64 r.2.2.2.1, .int .i64 r.2.2.2.2] 37)).alloc (.cells #[.slice none 0 0, .slice none 0 0, .slice none 0 0] 35)) e 82
  have k1 := ((Below.refl _ ((w.alloc (.cells #[V0, V1, V2] 35)))).alloc (Nat.le_refl _) (.cells #[.int .i64 r.1, .int .i64 r.2.1, .int .i64 r.2.2.1, .int .i64 r.2.2.2.1, .int .i64 r.2.2.2.2] 37)).alloc (by simp only [World.size_alloc]; omega) (.cells #[.slice none 0 0, .slice none 0 0, .slice none 0 0] 35) |>.alloc (by simp only [World.size_alloc]; omega) (.cells #[.int .i64 e.1, .int .i64 e.2.1, .int .i64 e.2.2.1, .int .i64 e.2.2.2.1, .int .i64 e.2.2.2.2] 82)
  have k2 := ((Below.refl _ ((w.alloc (.cells #[V0, V1, V2] 35)).alloc (.cells #[.int .i64 r.1, .int .i64 r.2.1, .int .i64 r.2.2.1, .int .i64 r.2.2.2.1, .int .i64 r.2.2.2.2] 37))).alloc (Nat.le_refl _) (.cells #[.slice none 0 0, .slice none 0 0, .slice none 0 0] 35)).alloc (by simp only [World.size_alloc]; omega) (.cells #[.int .i64 e.1, .int .i64 e.2.1, .int .i64 e.2.2.1, .int .i64 e.2.2.2.1, .int .i64 e.2.2.2.2] 82)
  have k3 := (Below.refl _ (((w.alloc (.cells #[V0, V1, V2] 35)).alloc (.cells #[.int .i64 r.1, .int .i64 r.2.1, .int .i64 r.2.2.1, .int .i64 r.2.2.2.1, .int .i64 r.2.2.2.2] 37)).alloc (.cells #[.slice none 0 0, .slice none 0 0, .slice none 0 0] 35))).alloc (Nat.le_refl _) (.cells #[.int .i64 e.1, .int .i64 e.2.1, .int .i64 e.2.2.1, .int .i64 e.2.2.2.1, .int .i64 e.2.2.2.2] 82)
  simp only [World.size_alloc] at h2 h3 h4
  exact ⟨h1.below k1 (by simp only [World.size_alloc]; omega), h2.below k2 (by simp only [World.size_alloc]; omega), h3.below k3 (by simp only [World.size_alloc]; omega), h4, by simp only [World.size_alloc]; omega, (((Below.refl w.heap.size w).alloc (Nat.le_refl _) _).alloc (by simp only [World.size_alloc]; omega) _).alloc (by simp only [World.size_alloc]; omega) _ |>.alloc (by simp only [World.size_alloc]; omega) _⟩
theorem Ga.below {K : Nat} (h : Ga w w2 V0 V1 V2 r e) (hb : Below K w2 w3) (hK : w.heap.size + 4 ≤ K) : Ga w w3 V0 V1 V2 r e :=
  ⟨h.bx.below hb (by omega), h.br.below hb (by omega), h.ry.below hb (by omega), h.be.below hb (by omega), Nat.le_trans h.sz hb.size, h.bel.trans (hb.mono (by omega))⟩
theorem Ga.drew (h : Ga w w2 V0 V1 V2 r e) : Ga w w2.drew V0 V1 V2 r e := ⟨h.bx, h.br, h.ry, h.be, h.sz, h.bel.drew⟩
theorem Ga.other (h : Ga w w2 V0 V1 V2 r e) {a : Addr} (ha : w.heap.size + 4 ≤ a.block) (u : Value) : Ga w (w2.setCell a u) V0 V1 V2 r e :=
  h.below ((Below.refl (w.heap.size + 4) w2).setCell ha u) (Nat.le_refl _)
theorem ne_set {w2 : World} {b i : Nat} (u : Value) {b' : Nat} (h : b' ≠ b) : (w2.setCell ⟨b, i, none⟩ u).heap[b']? = w2.heap[b']? := Below.heap_setCell w2 ⟨b, i, none⟩ u b' h
theorem Ga.set0 (h : Ga w w2 V0 V1 V2 r e) (u : Value) : Ga w (w2.setCell ⟨w.heap.size, 0, none⟩ u) u V1 V2 r e :=
  ⟨h.bx.set0 u, h.br.keep (ne_set u (by omega)), h.ry.keep (ne_set u (by omega)), h.be.keep (ne_set u (by omega)), by simpa using h.sz, h.bel.setCell (Nat.le_refl _) u⟩
theorem Ga.set1 (h : Ga w w2 V0 V1 V2 r e) (u : Value) : Ga w (w2.setCell ⟨w.heap.size, 1, none⟩ u) V0 u V2 r e :=
  ⟨h.bx.set1 u, h.br.keep (ne_set u (by omega)), h.ry.keep (ne_set u (by omega)), h.be.keep (ne_set u (by omega)), by simpa using h.sz, h.bel.setCell (Nat.le_refl _) u⟩
theorem Ga.setE (h : Ga w w2 V0 V1 V2 r e) {j : Nat} {u : Value} {e' : EntT} (he : Bx5 (w2.setCell ⟨w.heap.size + 1 + 1 + 1, j, none⟩ u) (w.heap.size + 1 + 1 + 1) e' 82) : Ga w (w2.setCell ⟨w.heap.size + 1 + 1 + 1, j, none⟩ u) V0 V1 V2 r e' :=
  ⟨h.bx.keep (ne_set u (by omega)), h.br.keep (ne_set u (by omega)), h.ry.keep (ne_set u (by omega)), he, by simpa using h.sz, h.bel.setCell (by show w.heap.size ≤ w.heap.size + 1 + 1 + 1; omega) u⟩
end

set_option maxRecDepth 100000 in
set_option maxHeartbeats 2000000 in
theorem l2ActMove (A : Option Addr) (n c : Nat) (B : Option Addr) (p d : Nat) (E : Option Addr) (q f : Nat) (D : Nat → Prop) (g : GameT) (k : Nat) (r : AskT) (w : World) (hg : GmD w D A n c B p d E q f g) (hD : ∀ b, D b → b < w.heap.size) (hok : okG' g) (hk : k < g.1.length) (hr : okA r) (hop : r.2.2.1 = 2) :
    Calls Tryd.prog 51 #[.agg #[.slice A n c, .slice B p d, .slice E q f], .int .i64 (k : Int), .agg #[.int .i64 r.1, .int .i64 r.2.1, .int .i64 r.2.2.1, .int .i64 r.2.2.2.1, .int .i64 r.2.2.2.2]] w fun e w' => GmPost2 w D (actG g k r) e w' := by
  have hn' := hide hg.en.len
  have hc1 := hg.en.cap
  have hc2 := hg.en.max
  unfold maxLen at hc2
  have hkn : k < n := by have := hn'.out; omega
  have hn4 : Hid (n ≤ 4) := hide (by
    have h1 := hok.ent
    have h3 := inc_len hok.inc (fun e he => (h1 e he).1)
    have := hn'.out
    omega)
  obtain ⟨b, off, rfl, hDb⟩ := hg.en.addr hk
  have hbw := hD b hDb
  have hbw1 : b < w.heap.size + 1 := by omega
  have hbw2 : b < w.heap.size + 1 + 1 := by omega
  have hbw3 : b < w.heap.size + 1 + 1 + 1 := by omega
  have hs4 := Ga.made w (.slice (some ⟨b, off, none⟩) n c) (.slice B p d) (.slice E q f) r g.1[k]
  have hg4 := hg.below hs4.bel hD
  have hek := (okG'.full hok).ent _ (List.getElem_mem hk)
  unfold entOk rng at hek
  unfold okA rng at hr
  obtain ⟨a0, a1, a2, a3, a4⟩ := hg.en.ent hk
  obtain ⟨xx0, xx1, xx2, xf0, xf1, xf2⟩ := hs4.bx.cells
  obtain ⟨rr0, rr1, rr2, rr3, rr4, -⟩ := hs4.br.cells
  obtain ⟨yy0, yy1, yy2, yg0, yg1, yg2⟩ := hs4.ry.cells
  obtain ⟨ee0, ee1, ee2, ee3, ee4, ef0, ef1, ef2, ef3, ef4⟩ := hs4.be.cells
  have hz4 := hs4.sz
  have hlx4 := hs4.bx.lt
  have hlr4 := hs4.br.lt
  have hly4 := hs4.ry.lt
  have hle4 := hs4.be.lt
  have hok' := hide hok
  clear hok hg
  have hrx : -1 ≤ r.2.2.2.1 ∧ r.2.2.2.1 ≤ 1 ∧ -1 ≤ r.2.2.2.2 ∧ r.2.2.2.2 ≤ 1 := by omega
  have hopp := hide hop
  have hr' := hide hr
  have hq2 : (r.2.2.1 == 2) = true := by simp [hop]
  clear hop hr
  cases e1 : inB (g.1[k].2.1 + r.2.2.2.1) 0 3
  · have hh := hide (show actG g k r = (g, 6) by
      unfold actG; simp only [getD_at hk, hopp.out, if_true]; rw [if_neg]; rintro ⟨h1, h2⟩; simp [inB, rng] at e1 h1; omega)
    go_enter Tryd.func51, Tryd.ntmps51
    go_wp2_with fail
    generalize ((((w.alloc (.cells #[.slice (some ⟨b, off, none⟩) n c, .slice B p d, .slice E q f] 35)).alloc (.cells #[.int .i64 r.1, .int .i64 r.2.1, .int .i64 r.2.2.1, .int .i64 r.2.2.2.1, .int .i64 r.2.2.2.2] 37)).alloc (.cells #[.slice none 0 0, .slice none 0 0, .slice none 0 0] 35)).alloc (.cells #[.int .i64 g.1[k].1, .int .i64 g.1[k].2.1, .int .i64 g.1[k].2.2.1, .int .i64 g.1[k].2.2.2.1, .int .i64 g.1[k].2.2.2.2] 82)) = w4 at *
    go_wp2_with (go_at_call 20; refine (l1In_c _ _ _ _).mono ?_; rintro e _ ⟨rfl, rfl⟩)
    refine bodyPost_ret (v := .tuple #[.agg #[.slice (some ⟨b, off, none⟩) n c, .slice B p d, .slice E q f], .int .i64 6]) (by simp [results, Tryd.results51, go_sem, yy0, yy1, yy2, yg0, yg1, yg2]) rfl ?_
    rw [hh.out]
    exact GmPost2.fin (x := w.heap.size) (y := w.heap.size + 1 + 1) (w9 := w4) (D' := D) 6 (by (repeat (first | (with_reducible exact Onl.refl _ _ _) | (with_reducible exact Onl.drewL _ _ _) | (with_reducible refine Onl.set ?_ (by simp) _) | with_reducible refine Onl.drew ?_))) hs4.bel (Nat.le_refl _) (by omega) hg4 (fun b hb => by have := hD b hb; exact ⟨by omega, by omega, .inl hb⟩)
  · cases e2 : inB (g.1[k].2.2.1 + r.2.2.2.2) 0 3
    · have hh := hide (show actG g k r = (g, 6) by
        unfold actG; simp only [getD_at hk, hopp.out, if_true]; rw [if_neg]; rintro ⟨h1, h2⟩; simp [inB, rng] at e2 h2; omega)
      go_enter Tryd.func51, Tryd.ntmps51
      go_wp2_with fail
      generalize ((((w.alloc (.cells #[.slice (some ⟨b, off, none⟩) n c, .slice B p d, .slice E q f] 35)).alloc (.cells #[.int .i64 r.1, .int .i64 r.2.1, .int .i64 r.2.2.1, .int .i64 r.2.2.2.1, .int .i64 r.2.2.2.2] 37)).alloc (.cells #[.slice none 0 0, .slice none 0 0, .slice none 0 0] 35)).alloc (.cells #[.int .i64 g.1[k].1, .int .i64 g.1[k].2.1, .int .i64 g.1[k].2.2.1, .int .i64 g.1[k].2.2.2.1, .int .i64 g.1[k].2.2.2.2] 82)) = w4 at *
      go_wp2_with (go_at_call 20; refine (l1In_c _ _ _ _).mono ?_; rintro e _ ⟨rfl, rfl⟩)
      refine bodyPost_ret (v := .tuple #[.agg #[.slice (some ⟨b, off, none⟩) n c, .slice B p d, .slice E q f], .int .i64 6]) (by simp [results, Tryd.results51, go_sem, yy0, yy1, yy2, yg0, yg1, yg2]) rfl ?_
      rw [hh.out]
      exact GmPost2.fin (x := w.heap.size) (y := w.heap.size + 1 + 1) (w9 := w4) (D' := D) 6 (by (repeat (first | (with_reducible exact Onl.refl _ _ _) | (with_reducible exact Onl.drewL _ _ _) | (with_reducible refine Onl.set ?_ (by simp) _) | with_reducible refine Onl.drew ?_))) hs4.bel (Nat.le_refl _) (by omega) hg4 (fun b hb => by have := hD b hb; exact ⟨by omega, by omega, .inl hb⟩)
    · have hh := hide (show actG g k r = ((g.1.set k (g.1[k].1, g.1[k].2.1 + r.2.2.2.1, g.1[k].2.2.1 + r.2.2.2.2, g.1[k].2.2.2.1, g.1[k].2.2.2.2), g.2.1, g.2.2), 0) by
        unfold actG; simp only [getD_at hk, hopp.out, if_true]; rw [if_pos]
        · rfl
        · simp [inB] at e1 e2; unfold rng; omega)
      go_enter Tryd.func51, Tryd.ntmps51
      go_wp2_with fail
      generalize ((((w.alloc (.cells #[.slice (some ⟨b, off, none⟩) n c, .slice B p d, .slice E q f] 35)).alloc (.cells #[.int .i64 r.1, .int .i64 r.2.1, .int .i64 r.2.2.1, .int .i64 r.2.2.2.1, .int .i64 r.2.2.2.2] 37)).alloc (.cells #[.slice none 0 0, .slice none 0 0, .slice none 0 0] 35)).alloc (.cells #[.int .i64 g.1[k].1, .int .i64 g.1[k].2.1, .int .i64 g.1[k].2.2.1, .int .i64 g.1[k].2.2.2.1, .int .i64 g.1[k].2.2.2.2] 82)) = w4 at *
      have hs45 := hs4.setE (hs4.be.set1 (g.1[k].2.1 + r.2.2.2.1))
      have hs5 := hs45.setE (hs45.be.set2 (g.1[k].2.2.1 + r.2.2.2.2))
      dsimp only at hs5
      have hg5 := hg4.keep (w' := (w4.setCell ⟨w.heap.size + 1 + 1 + 1, 1, none⟩ (.int .i64 (g.1[k].2.1 + r.2.2.2.1))).setCell ⟨w.heap.size + 1 + 1 + 1, 2, none⟩ (.int .i64 (g.1[k].2.2.1 + r.2.2.2.2))) (fun b hb => (ne_set _ (by have := hD b hb; omega)).trans (ne_set _ (by have := hD b hb; omega)))
      have hD5 : ∀ b, D b → b < ((w4.setCell ⟨w.heap.size + 1 + 1 + 1, 1, none⟩ (.int .i64 (g.1[k].2.1 + r.2.2.2.1))).setCell ⟨w.heap.size + 1 + 1 + 1, 2, none⟩ (.int .i64 (g.1[k].2.2.1 + r.2.2.2.2))).heap.size := fun b hb => by have := hD b hb; simp; omega
      have hsp5 : ∀ b, D b → D b ∨ w.heap.size + 4 ≤ b := fun b hb => .inl hb
      clear hs45 hs4 hg4
      have hlen5 := hide (show n = (g.1).length by exact hn'.out)
      have hzz := hide (show ((w4.setCell ⟨w.heap.size + 1 + 1 + 1, 1, none⟩ (.int .i64 (g.1[k].2.1 + r.2.2.2.1))).setCell ⟨w.heap.size + 1 + 1 + 1, 2, none⟩ (.int .i64 (g.1[k].2.2.1 + r.2.2.2.2))).heap.size = w4.heap.size by simp)
      have hown5 : Own encEnt 5 82 (((w4.setCell ⟨w.heap.size + 1 + 1 + 1, 1, none⟩ (.int .i64 (g.1[k].2.1 + r.2.2.2.1))).setCell ⟨w.heap.size + 1 + 1 + 1, 2, none⟩ (.int .i64 (g.1[k].2.2.1 + r.2.2.2.2))).alloc (.cells #[] 82)) w4.heap.size (.slice (some ⟨w4.heap.size, 0, none⟩) 0 0) [] := by
        have h := own_empty encEnt 5 82 ((w4.setCell ⟨w.heap.size + 1 + 1 + 1, 1, none⟩ (.int .i64 (g.1[k].2.1 + r.2.2.2.1))).setCell ⟨w.heap.size + 1 + 1 + 1, 2, none⟩ (.int .i64 (g.1[k].2.2.1 + r.2.2.2.2)))
        rw [hzz.out] at h
        exact h
      have hA5 := ((Below.refl ((w4.setCell ⟨w.heap.size + 1 + 1 + 1, 1, none⟩ (.int .i64 (g.1[k].2.1 + r.2.2.2.1))).setCell ⟨w.heap.size + 1 + 1 + 1, 2, none⟩ (.int .i64 (g.1[k].2.2.1 + r.2.2.2.2))).heap.size ((w4.setCell ⟨w.heap.size + 1 + 1 + 1, 1, none⟩ (.int .i64 (g.1[k].2.1 + r.2.2.2.1))).setCell ⟨w.heap.size + 1 + 1 + 1, 2, none⟩ (.int .i64 (g.1[k].2.2.1 + r.2.2.2.2)))).alloc (Nat.le_refl _) (.cells #[] 82))
      have hsl5 : Hid (Sl encEnt 5 ((((w4.setCell ⟨w.heap.size + 1 + 1 + 1, 1, none⟩ (.int .i64 (g.1[k].2.1 + r.2.2.2.1))).setCell ⟨w.heap.size + 1 + 1 + 1, 2, none⟩ (.int .i64 (g.1[k].2.2.1 + r.2.2.2.2))).alloc (.cells #[] 82))) 0 ((w4.setCell ⟨w.heap.size + 1 + 1 + 1, 1, none⟩ (.int .i64 (g.1[k].2.1 + r.2.2.2.1))).setCell ⟨w.heap.size + 1 + 1 + 1, 2, none⟩ (.int .i64 (g.1[k].2.2.1 + r.2.2.2.2))).heap.size (some ⟨b, off, none⟩) (g.1)) := hide ((hg5.en.sl hD5).below hA5 (Nat.le_refl _))
      have hz5 := hs5.sz
      have hlx5 := hs5.bx.lt
      have hlr5 := hs5.br.lt
      have hly5 := hs5.ry.lt
      have hle5 := hs5.be.lt
      have hd5' := hide hD5
      have hsp5' := hide hsp5
      clear hD5 hsp5
      go_wp2_with (first
        | (go_at_call 20; refine (l1In_c _ _ _ _).mono ?_; rintro e _ ⟨rfl, rfl⟩)
        | (at_builtin; generalize (w4.setCell ⟨w.heap.size + 1 + 1 + 1, 1, none⟩ (.int .i64 (g.1[k].2.1 + r.2.2.2.1))).setCell ⟨w.heap.size + 1 + 1 + 1, 2, none⟩ (.int .i64 (g.1[k].2.2.1 + r.2.2.2.2)) = w5 at *; refine wpList_app encEnt_len (by omega) encEnt_one rfl _ _ 33 rfl 82 _ 40 Tryd.underlying33 infoEnt rfl w4.heap.size _ [] rfl hown5 0 w5.heap.size _ (g.1) _ _ rfl hlen5.out hsl5.out (by have h1 := hn4.out; have h2 := hlen5.out; simp only [List.length_nil, maxLen]; omega) (by have h1 := hzz.out; have h2 := hA5.size; omega) ?_)
        | fail)
      intro v6 w6 ho6 hgr6 hb6
      try rw [List.nil_append] at ho6
      obtain ⟨g6, c6, rfl, hg61, hg62, hc61, hc62⟩ := ho6.at0 (by have := hlen5.out; omega)
      rw [← hlen5.out] at ho6 hc61 ⊢
      unfold maxLen at hc62
      have hb56 := hA5.trans (hb6.mono (by have := hzz.out; omega))
      have hs6 := hs5.below hb56 hz5
      have hg6 := hg5.below hb56 hd5'.out
      have hz56 := hb56.size
      have hzz' := hzz.out
      clear xx0 xx1 xx2 xf0 xf1 xf2 rr0 rr1 rr2 rr3 rr4 yy0 yy1 yy2 yg0 yg1 yg2 ee0 ee1 ee2 ee3 ee4 ef0 ef1 ef2 ef3 ef4 hown5 hA5 hsl5 hgr6 hb6
      obtain ⟨xx0, xx1, xx2, xf0, xf1, xf2⟩ := hs6.bx.cells
      obtain ⟨yy0, yy1, yy2, yg0, yg1, yg2⟩ := hs6.ry.cells
      obtain ⟨ee0, ee1, ee2, ee3, ee4, ef0, ef1, ef2, ef3, ef4⟩ := hs6.be.cells
      try dsimp only at ee0 ee1 ee2 ee3 ee4
      have hk6 : k < (g.1).length := by have := hlen5.out; omega
      obtain ⟨d0, d1, d2, d3, d4⟩ := (ho6.slAt encEnt_len).2.2.getEnt hk6
      simp only [Nat.zero_add] at d0 d1 d2 d3 d4
      have df0 := ho6.frozen (k * 5)
      have df1 := ho6.frozen (k * 5 + 1)
      have df2 := ho6.frozen (k * 5 + 2)
      have df3 := ho6.frozen (k * 5 + 3)
      have df4 := ho6.frozen (k * 5 + 4)
      have hne1 : ¬ w.heap.size = g6 := by omega
      have hne2 : ¬ g6 = w.heap.size := by omega
      have hne3 : ¬ w.heap.size + 1 + 1 = g6 := by omega
      have hne4 : ¬ g6 = w.heap.size + 1 + 1 := by omega
      have hne5 : ¬ w.heap.size + 1 + 1 + 1 = g6 := by omega
      have hne6 : ¬ g6 = w.heap.size + 1 + 1 + 1 := by omega
      have hlx6 := hs6.bx.lt
      have hly6 := hs6.ry.lt
      have hle6 := hs6.be.lt
      have hfin : Hid (GmD (((((((w6.setCell ⟨w.heap.size, 0, none⟩ (.slice (some ⟨g6, 0, none⟩) n c6)).setCell ⟨g6, k * 5, none⟩ (.int .i64 (g.1[k].1, g.1[k].2.1 + r.2.2.2.1, g.1[k].2.2.1 + r.2.2.2.2, g.1[k].2.2.2.1, g.1[k].2.2.2.2).1)).setCell ⟨g6, k * 5 + 1, none⟩ (.int .i64 (g.1[k].1, g.1[k].2.1 + r.2.2.2.1, g.1[k].2.2.1 + r.2.2.2.2, g.1[k].2.2.2.1, g.1[k].2.2.2.2).2.1)).setCell ⟨g6, k * 5 + 2, none⟩ (.int .i64 (g.1[k].1, g.1[k].2.1 + r.2.2.2.1, g.1[k].2.2.1 + r.2.2.2.2, g.1[k].2.2.2.1, g.1[k].2.2.2.2).2.2.1)).setCell ⟨g6, k * 5 + 3, none⟩ (.int .i64 (g.1[k].1, g.1[k].2.1 + r.2.2.2.1, g.1[k].2.2.1 + r.2.2.2.2, g.1[k].2.2.2.1, g.1[k].2.2.2.2).2.2.2.1)).setCell ⟨g6, k * 5 + 4, none⟩ (.int .i64 (g.1[k].1, g.1[k].2.1 + r.2.2.2.1, g.1[k].2.2.1 + r.2.2.2.2, g.1[k].2.2.2.1, g.1[k].2.2.2.2).2.2.2.2))) (fun b => (D) b ∨ b = g6) (some ⟨g6, 0, none⟩) n c6 B p d E q f ((g.1).set k (g.1[k].1, g.1[k].2.1 + r.2.2.2.1, g.1[k].2.2.1 + r.2.2.2.2, g.1[k].2.2.2.1, g.1[k].2.2.2.2), g.2.1, g.2.2) ∧ Below w.heap.size w (((((((w6.setCell ⟨w.heap.size, 0, none⟩ (.slice (some ⟨g6, 0, none⟩) n c6)).setCell ⟨g6, k * 5, none⟩ (.int .i64 (g.1[k].1, g.1[k].2.1 + r.2.2.2.1, g.1[k].2.2.1 + r.2.2.2.2, g.1[k].2.2.2.1, g.1[k].2.2.2.2).1)).setCell ⟨g6, k * 5 + 1, none⟩ (.int .i64 (g.1[k].1, g.1[k].2.1 + r.2.2.2.1, g.1[k].2.2.1 + r.2.2.2.2, g.1[k].2.2.2.1, g.1[k].2.2.2.2).2.1)).setCell ⟨g6, k * 5 + 2, none⟩ (.int .i64 (g.1[k].1, g.1[k].2.1 + r.2.2.2.1, g.1[k].2.2.1 + r.2.2.2.2, g.1[k].2.2.2.1, g.1[k].2.2.2.2).2.2.1)).setCell ⟨g6, k * 5 + 3, none⟩ (.int .i64 (g.1[k].1, g.1[k].2.1 + r.2.2.2.1, g.1[k].2.2.1 + r.2.2.2.2, g.1[k].2.2.2.1, g.1[k].2.2.2.2).2.2.2.1)).setCell ⟨g6, k * 5 + 4, none⟩ (.int .i64 (g.1[k].1, g.1[k].2.1 + r.2.2.2.1, g.1[k].2.2.1 + r.2.2.2.2, g.1[k].2.2.2.1, g.1[k].2.2.2.2).2.2.2.2))) ∧ (((((((w6.setCell ⟨w.heap.size, 0, none⟩ (.slice (some ⟨g6, 0, none⟩) n c6)).setCell ⟨g6, k * 5, none⟩ (.int .i64 (g.1[k].1, g.1[k].2.1 + r.2.2.2.1, g.1[k].2.2.1 + r.2.2.2.2, g.1[k].2.2.2.1, g.1[k].2.2.2.2).1)).setCell ⟨g6, k * 5 + 1, none⟩ (.int .i64 (g.1[k].1, g.1[k].2.1 + r.2.2.2.1, g.1[k].2.2.1 + r.2.2.2.2, g.1[k].2.2.2.1, g.1[k].2.2.2.2).2.1)).setCell ⟨g6, k * 5 + 2, none⟩ (.int .i64 (g.1[k].1, g.1[k].2.1 + r.2.2.2.1, g.1[k].2.2.1 + r.2.2.2.2, g.1[k].2.2.2.1, g.1[k].2.2.2.2).2.2.1)).setCell ⟨g6, k * 5 + 3, none⟩ (.int .i64 (g.1[k].1, g.1[k].2.1 + r.2.2.2.1, g.1[k].2.2.1 + r.2.2.2.2, g.1[k].2.2.2.1, g.1[k].2.2.2.2).2.2.2.1)).setCell ⟨g6, k * 5 + 4, none⟩ (.int .i64 (g.1[k].1, g.1[k].2.1 + r.2.2.2.1, g.1[k].2.2.1 + r.2.2.2.2, g.1[k].2.2.2.1, g.1[k].2.2.2.2).2.2.2.2))).heap.size = w6.heap.size) := by
        have hS1 : ∀ b, b ≠ w.heap.size → (w6.setCell ⟨w.heap.size, 0, none⟩ (.slice (some ⟨g6, 0, none⟩) n c6)).heap[b]? = w6.heap[b]? := fun b h => Below.heap_setCell w6 ⟨w.heap.size, 0, none⟩ _ b h
        have hS2 : ∀ b, b ≠ w.heap.size → b ≠ g6 → (((((((w6.setCell ⟨w.heap.size, 0, none⟩ (.slice (some ⟨g6, 0, none⟩) n c6)).setCell ⟨g6, k * 5, none⟩ (.int .i64 (g.1[k].1, g.1[k].2.1 + r.2.2.2.1, g.1[k].2.2.1 + r.2.2.2.2, g.1[k].2.2.2.1, g.1[k].2.2.2.2).1)).setCell ⟨g6, k * 5 + 1, none⟩ (.int .i64 (g.1[k].1, g.1[k].2.1 + r.2.2.2.1, g.1[k].2.2.1 + r.2.2.2.2, g.1[k].2.2.2.1, g.1[k].2.2.2.2).2.1)).setCell ⟨g6, k * 5 + 2, none⟩ (.int .i64 (g.1[k].1, g.1[k].2.1 + r.2.2.2.1, g.1[k].2.2.1 + r.2.2.2.2, g.1[k].2.2.2.1, g.1[k].2.2.2.2).2.2.1)).setCell ⟨g6, k * 5 + 3, none⟩ (.int .i64 (g.1[k].1, g.1[k].2.1 + r.2.2.2.1, g.1[k].2.2.1 + r.2.2.2.2, g.1[k].2.2.2.1, g.1[k].2.2.2.2).2.2.2.1)).setCell ⟨g6, k * 5 + 4, none⟩ (.int .i64 (g.1[k].1, g.1[k].2.1 + r.2.2.2.1, g.1[k].2.2.1 + r.2.2.2.2, g.1[k].2.2.2.1, g.1[k].2.2.2.2).2.2.2.2))).heap[b]? = w6.heap[b]? := fun b h h2 => (heap_putCells_other (encEnt (g.1[k].1, g.1[k].2.1 + r.2.2.2.1, g.1[k].2.2.1 + r.2.2.2.2, g.1[k].2.2.2.1, g.1[k].2.2.2.2)) (w6.setCell ⟨w.heap.size, 0, none⟩ (.slice (some ⟨g6, 0, none⟩) n c6)) g6 (k * 5) b h2).trans (hS1 b h)
        have h1 := ho6.keep (w' := w6.setCell ⟨w.heap.size, 0, none⟩ (.slice (some ⟨g6, 0, none⟩) n c6)) (fun b hb => hS1 b (by simp [Value.ownBlock] at hb; omega))
        have h2 := h1.put_ encEnt_len hkn (g.1[k].1, g.1[k].2.1 + r.2.2.2.1, g.1[k].2.2.1 + r.2.2.2.2, g.1[k].2.2.2.1, g.1[k].2.2.2.2)
        have h3 : Own encEnt 5 82 (((((((w6.setCell ⟨w.heap.size, 0, none⟩ (.slice (some ⟨g6, 0, none⟩) n c6)).setCell ⟨g6, k * 5, none⟩ (.int .i64 (g.1[k].1, g.1[k].2.1 + r.2.2.2.1, g.1[k].2.2.1 + r.2.2.2.2, g.1[k].2.2.2.1, g.1[k].2.2.2.2).1)).setCell ⟨g6, k * 5 + 1, none⟩ (.int .i64 (g.1[k].1, g.1[k].2.1 + r.2.2.2.1, g.1[k].2.2.1 + r.2.2.2.2, g.1[k].2.2.2.1, g.1[k].2.2.2.2).2.1)).setCell ⟨g6, k * 5 + 2, none⟩ (.int .i64 (g.1[k].1, g.1[k].2.1 + r.2.2.2.1, g.1[k].2.2.1 + r.2.2.2.2, g.1[k].2.2.2.1, g.1[k].2.2.2.2).2.2.1)).setCell ⟨g6, k * 5 + 3, none⟩ (.int .i64 (g.1[k].1, g.1[k].2.1 + r.2.2.2.1, g.1[k].2.2.1 + r.2.2.2.2, g.1[k].2.2.2.1, g.1[k].2.2.2.2).2.2.2.1)).setCell ⟨g6, k * 5 + 4, none⟩ (.int .i64 (g.1[k].1, g.1[k].2.1 + r.2.2.2.1, g.1[k].2.2.1 + r.2.2.2.2, g.1[k].2.2.2.1, g.1[k].2.2.2.2).2.2.2.2))) w4.heap.size (.slice (some ⟨g6, 0, none⟩) n c6) ((g.1).set k (g.1[k].1, g.1[k].2.1 + r.2.2.2.1, g.1[k].2.2.1 + r.2.2.2.2, g.1[k].2.2.2.1, g.1[k].2.2.2.2)) := h2
        have hd := hd5'.out
        have hsp := hsp5'.out
        have hno : ∀ b, (D) b → b ≠ w.heap.size ∧ b ≠ g6 := fun b hb => by
          have e1 := hd b hb
          rcases hsp b hb with e2 | e2
          · have e3 := hD b e2; exact ⟨by omega, by omega⟩
          · exact ⟨by omega, by omega⟩
        refine ⟨⟨h3.rdG encEnt_len (.inr rfl), (hg6.fl.keep (fun b hb => hS2 b (hno b hb).1 (hno b hb).2)).mono (fun b hb => .inl hb), (hg6.la.keep (fun b hb => hS2 b (hno b hb).1 (hno b hb).2)).mono (fun b hb => .inl hb), .inr ⟨g6, 0, rfl⟩⟩, ?_, ?_⟩
        · exact below_putCells (encEnt (g.1[k].1, g.1[k].2.1 + r.2.2.2.1, g.1[k].2.2.1 + r.2.2.2.2, g.1[k].2.2.2.1, g.1[k].2.2.2.2)) (hs6.bel.setCell (Nat.le_refl _) _) (by omega)
        · exact (size_putCells (encEnt (g.1[k].1, g.1[k].2.1 + r.2.2.2.1, g.1[k].2.2.1 + r.2.2.2.2, g.1[k].2.2.2.1, g.1[k].2.2.2.2)) _ _ _).trans (by simp)
      clear ho6 hs5 hg5 hs6 hg6
      go_wp2
      refine bodyPost_ret (v := .tuple #[.agg #[.slice (some ⟨g6, 0, none⟩) n c6, .slice B p d, .slice E q f], .int .i64 0]) (by simp [results, Tryd.results51, go_sem, yy0, yy1, yy2, yg0, yg1, yg2, hne1, hne2, hne3, hne4]) rfl ?_
      rw [hh.out]
      refine GmPost2.fin (x := w.heap.size) (y := w.heap.size + 1 + 1) (w9 := ((((((w6.setCell ⟨w.heap.size, 0, none⟩ (.slice (some ⟨g6, 0, none⟩) n c6)).setCell ⟨g6, k * 5, none⟩ (.int .i64 (g.1[k].1, g.1[k].2.1 + r.2.2.2.1, g.1[k].2.2.1 + r.2.2.2.2, g.1[k].2.2.2.1, g.1[k].2.2.2.2).1)).setCell ⟨g6, k * 5 + 1, none⟩ (.int .i64 (g.1[k].1, g.1[k].2.1 + r.2.2.2.1, g.1[k].2.2.1 + r.2.2.2.2, g.1[k].2.2.2.1, g.1[k].2.2.2.2).2.1)).setCell ⟨g6, k * 5 + 2, none⟩ (.int .i64 (g.1[k].1, g.1[k].2.1 + r.2.2.2.1, g.1[k].2.2.1 + r.2.2.2.2, g.1[k].2.2.2.1, g.1[k].2.2.2.2).2.2.1)).setCell ⟨g6, k * 5 + 3, none⟩ (.int .i64 (g.1[k].1, g.1[k].2.1 + r.2.2.2.1, g.1[k].2.2.1 + r.2.2.2.2, g.1[k].2.2.2.1, g.1[k].2.2.2.2).2.2.2.1)).setCell ⟨g6, k * 5 + 4, none⟩ (.int .i64 (g.1[k].1, g.1[k].2.1 + r.2.2.2.1, g.1[k].2.2.1 + r.2.2.2.2, g.1[k].2.2.2.1, g.1[k].2.2.2.2).2.2.2.2))) (D' := fun b => (D) b ∨ b = g6) 0 (by (repeat (first | (with_reducible exact Onl.refl _ _ _) | (with_reducible exact Onl.drewL _ _ _) | (with_reducible refine Onl.set ?_ (by simp) _) | with_reducible refine Onl.drew ?_))) hfin.out.2.1 (Nat.le_refl _) (by omega) hfin.out.1 (fun b hb => ?_)
      rw [hfin.out.2.2]
      rcases hb with hb | hb
      · have e1 := hd5'.out b hb
        rcases hsp5'.out b hb with e2 | e2
        · have e3 := hD b e2; exact ⟨by omega, by omega, .inl e2⟩
        · exact ⟨by omega, by omega, .inr ⟨by omega, by omega⟩⟩
      · exact ⟨by omega, by omega, .inr ⟨by omega, by omega⟩⟩

set_option maxRecDepth 100000 in
set_option maxHeartbeats 2000000 in
theorem l2ActTake (A : Option Addr) (n c : Nat) (B : Option Addr) (p d : Nat) (E : Option Addr) (q f : Nat) (D : Nat → Prop) (g : GameT) (k : Nat) (r : AskT) (w : World) (hg : GmD w D A n c B p d E q f g) (hD : ∀ b, D b → b < w.heap.size) (hok : okG' g) (hk : k < g.1.length) (hr : okA r) (hop : r.2.2.1 = 3) :
    Calls Tryd.prog 51 #[.agg #[.slice A n c, .slice B p d, .slice E q f], .int .i64 (k : Int), .agg #[.int .i64 r.1, .int .i64 r.2.1, .int .i64 r.2.2.1, .int .i64 r.2.2.2.1, .int .i64 r.2.2.2.2]] w fun e w' => GmPost2 w D (actG g k r) e w' := by
  have hn' := hide hg.en.len
  have hc1 := hg.en.cap
  have hc2 := hg.en.max
  unfold maxLen at hc2
  have hkn : k < n := by have := hn'.out; omega
  have hn4 : Hid (n ≤ 4) := hide (by
    have h1 := hok.ent
    have h3 := inc_len hok.inc (fun e he => (h1 e he).1)
    have := hn'.out
    omega)
  obtain ⟨b, off, rfl, hDb⟩ := hg.en.addr hk
  have hbw := hD b hDb
  have hbw1 : b < w.heap.size + 1 := by omega
  have hbw2 : b < w.heap.size + 1 + 1 := by omega
  have hbw3 : b < w.heap.size + 1 + 1 + 1 := by omega
  have hs4 := Ga.made w (.slice (some ⟨b, off, none⟩) n c) (.slice B p d) (.slice E q f) r g.1[k]
  have hg4 := hg.below hs4.bel hD
  have hek := (okG'.full hok).ent _ (List.getElem_mem hk)
  unfold entOk rng at hek
  unfold okA rng at hr
  obtain ⟨a0, a1, a2, a3, a4⟩ := hg.en.ent hk
  obtain ⟨xx0, xx1, xx2, xf0, xf1, xf2⟩ := hs4.bx.cells
  obtain ⟨rr0, rr1, rr2, rr3, rr4, -⟩ := hs4.br.cells
  obtain ⟨yy0, yy1, yy2, yg0, yg1, yg2⟩ := hs4.ry.cells
  obtain ⟨ee0, ee1, ee2, ee3, ee4, ef0, ef1, ef2, ef3, ef4⟩ := hs4.be.cells
  have hz4 := hs4.sz
  have hlx4 := hs4.bx.lt
  have hlr4 := hs4.br.lt
  have hly4 := hs4.ry.lt
  have hle4 := hs4.be.lt
  have hok' := hide hok
  have hsl : sqr g.1[k] < g.2.1.length := by have h16 := hok.n16; unfold sqr; omega
  have hp' := hide hg.fl.len
  obtain ⟨bB, offB, rfl, hDbB⟩ := hg.fl.addr hsl
  obtain rfl : p = 16 := by have h1 := hg.fl.len; have h2 := hok.n16; omega
  have hBw := hD bB hDbB
  have hBw1 : bB < w.heap.size + 1 := by omega
  have hBw2 : bB < w.heap.size + 1 + 1 := by omega
  have hBw3 : bB < w.heap.size + 1 + 1 + 1 := by omega
  have hc3 := hg.fl.cap
  have hc4 := hg.fl.max
  unfold maxLen at hc4
  have h16 := hide hok.n16
  have hsq16 : sqr g.1[k] < 16 := by have := h16.out; omega
  have hsqi : g.1[k].2.2.1 * 4 + g.1[k].2.1 = (sqr g.1[k] : Int) := by unfold sqr; omega
  have hfl := (okG'.full hok).flo _ (List.getElem_mem hsl)
  unfold rng at hfl
  have hq0 := hg.fl.i64 hsl
  have hopp := hide hop
  have hr' := hide hr
  have hq2 : (r.2.2.1 == 2) = false := by simp [hop]
  have hq3 : (r.2.2.1 == 3) = true := by simp [hop]
  have hgd := hide (getD_at hsl (0 : Int))
  have hgH := hide hg
  clear hop hr hok hg
  generalize hsqe : sqr g.1[k] = sq at *
  have hsqe' := hide hsqe
  clear hsqe
  cases e1 : (g.2.1[sq] == 0)
  · have hh := hide (show actG g k r = ((g.1.set k (g.1[k].1, g.1[k].2.1, g.1[k].2.2.1, g.1[k].2.2.2.1, g.1[k].2.2.2.2 + 1), g.2.1.set sq (g.2.1[sq] - 1), g.2.2), 0) by
      have h0 : ¬ g.2.1[sq] = 0 := by simpa using e1
      unfold actG; simp only [getD_at hk, hopp.out, hsqe'.out, hgd.out, h0, if_false, if_true]; rfl)
    have hown4 : Own encI 1 3 ((((((w.alloc (.cells #[.slice (some ⟨b, off, none⟩) n c, .slice (some ⟨bB, offB, none⟩) 16 d, .slice E q f] 35)).alloc (.cells #[.int .i64 r.1, .int .i64 r.2.1, .int .i64 r.2.2.1, .int .i64 r.2.2.2.1, .int .i64 r.2.2.2.2] 37)).alloc (.cells #[.slice none 0 0, .slice none 0 0, .slice none 0 0] 35)).alloc (.cells #[.int .i64 g.1[k].1, .int .i64 g.1[k].2.1, .int .i64 g.1[k].2.2.1, .int .i64 g.1[k].2.2.2.1, .int .i64 g.1[k].2.2.2.2] 82))).alloc (.cells #[] 3)) (w.heap.size + 1 + 1 + 1 + 1) (.slice (some ⟨(w.heap.size + 1 + 1 + 1 + 1), 0, none⟩) 0 0) [] := by
      have h := own_empty encI 1 3 (((((w.alloc (.cells #[.slice (some ⟨b, off, none⟩) n c, .slice (some ⟨bB, offB, none⟩) 16 d, .slice E q f] 35)).alloc (.cells #[.int .i64 r.1, .int .i64 r.2.1, .int .i64 r.2.2.1, .int .i64 r.2.2.2.1, .int .i64 r.2.2.2.2] 37)).alloc (.cells #[.slice none 0 0, .slice none 0 0, .slice none 0 0] 35)).alloc (.cells #[.int .i64 g.1[k].1, .int .i64 g.1[k].2.1, .int .i64 g.1[k].2.2.1, .int .i64 g.1[k].2.2.2.1, .int .i64 g.1[k].2.2.2.2] 82)))
      simp only [World.size_alloc] at h
      exact h
    have hA4 := (Below.refl (((((w.alloc (.cells #[.slice (some ⟨b, off, none⟩) n c, .slice (some ⟨bB, offB, none⟩) 16 d, .slice E q f] 35)).alloc (.cells #[.int .i64 r.1, .int .i64 r.2.1, .int .i64 r.2.2.1, .int .i64 r.2.2.2.1, .int .i64 r.2.2.2.2] 37)).alloc (.cells #[.slice none 0 0, .slice none 0 0, .slice none 0 0] 35)).alloc (.cells #[.int .i64 g.1[k].1, .int .i64 g.1[k].2.1, .int .i64 g.1[k].2.2.1, .int .i64 g.1[k].2.2.2.1, .int .i64 g.1[k].2.2.2.2] 82))).heap.size (((((w.alloc (.cells #[.slice (some ⟨b, off, none⟩) n c, .slice (some ⟨bB, offB, none⟩) 16 d, .slice E q f] 35)).alloc (.cells #[.int .i64 r.1, .int .i64 r.2.1, .int .i64 r.2.2.1, .int .i64 r.2.2.2.1, .int .i64 r.2.2.2.2] 37)).alloc (.cells #[.slice none 0 0, .slice none 0 0, .slice none 0 0] 35)).alloc (.cells #[.int .i64 g.1[k].1, .int .i64 g.1[k].2.1, .int .i64 g.1[k].2.2.1, .int .i64 g.1[k].2.2.2.1, .int .i64 g.1[k].2.2.2.2] 82)))).alloc (Nat.le_refl _) (.cells #[] 3)
    have hsl4 : Hid (Sl encI 1 ((((((w.alloc (.cells #[.slice (some ⟨b, off, none⟩) n c, .slice (some ⟨bB, offB, none⟩) 16 d, .slice E q f] 35)).alloc (.cells #[.int .i64 r.1, .int .i64 r.2.1, .int .i64 r.2.2.1, .int .i64 r.2.2.2.1, .int .i64 r.2.2.2.2] 37)).alloc (.cells #[.slice none 0 0, .slice none 0 0, .slice none 0 0] 35)).alloc (.cells #[.int .i64 g.1[k].1, .int .i64 g.1[k].2.1, .int .i64 g.1[k].2.2.1, .int .i64 g.1[k].2.2.2.1, .int .i64 g.1[k].2.2.2.2] 82))).alloc (.cells #[] 3)) 0 w.heap.size (some ⟨bB, offB, none⟩) g.2.1) := hide ((hg4.fl.sl hD).below hA4 (by omega))
    have hzz4 := hide (show (((((w.alloc (.cells #[.slice (some ⟨b, off, none⟩) n c, .slice (some ⟨bB, offB, none⟩) 16 d, .slice E q f] 35)).alloc (.cells #[.int .i64 r.1, .int .i64 r.2.1, .int .i64 r.2.2.1, .int .i64 r.2.2.2.1, .int .i64 r.2.2.2.2] 37)).alloc (.cells #[.slice none 0 0, .slice none 0 0, .slice none 0 0] 35)).alloc (.cells #[.int .i64 g.1[k].1, .int .i64 g.1[k].2.1, .int .i64 g.1[k].2.2.1, .int .i64 g.1[k].2.2.2.1, .int .i64 g.1[k].2.2.2.2] 82))).heap.size = (w.heap.size + 1 + 1 + 1 + 1) by simp)
    go_enter Tryd.func51, Tryd.ntmps51
    go_wp2_with (first
      | (at_builtin; generalize ((((w.alloc (.cells #[.slice (some ⟨b, off, none⟩) n c, .slice (some ⟨bB, offB, none⟩) 16 d, .slice E q f] 35)).alloc (.cells #[.int .i64 r.1, .int .i64 r.2.1, .int .i64 r.2.2.1, .int .i64 r.2.2.2.1, .int .i64 r.2.2.2.2] 37)).alloc (.cells #[.slice none 0 0, .slice none 0 0, .slice none 0 0] 35)).alloc (.cells #[.int .i64 g.1[k].1, .int .i64 g.1[k].2.1, .int .i64 g.1[k].2.2.1, .int .i64 g.1[k].2.2.2.1, .int .i64 g.1[k].2.2.2.2] 82)) = w4 at *; refine wpList_app encI_len (by omega) encI_one rfl _ _ 23 rfl 3 _ 8 Tryd.underlying23 infoI rfl (w.heap.size + 1 + 1 + 1 + 1) _ [] rfl hown4 0 w.heap.size _ g.2.1 _ _ rfl hp'.out hsl4.out (by have h1 := h16.out; simp only [List.length_nil, maxLen]; omega) (by have := hzz4.out; rw [World.size_alloc]; omega) ?_)
      | fail)
    intro va wa hoa hgra hba
    try rw [List.nil_append] at hoa
    obtain ⟨g5, c5, rfl, hg51, hg52, hc51, hc52⟩ := hoa.at0 (by have := h16.out; omega)
    rw [h16.out] at hoa hc51 ⊢
    unfold maxLen at hc52
    have hzz4' := hzz4.out
    have hb4a := hA4.trans (hba.mono (by omega))
    have hsa := hs4.below hb4a hz4
    have hga := hg4.below hb4a (fun b hb => by have := hD b hb; omega)
    have hz4a := hb4a.size
    clear xx0 xx1 xx2 xf0 xf1 xf2 rr0 rr1 rr2 rr3 rr4 yy0 yy1 yy2 yg0 yg1 yg2 ee0 ee1 ee2 ee3 ee4 ef0 ef1 ef2 ef3 ef4 hown4 hA4 hsl4 hgra hba hs4 hg4 hq0
    obtain ⟨xx0, xx1, xx2, xf0, xf1, xf2⟩ := hsa.bx.cells
    have hlxa := hsa.bx.lt
    go_wp2
    have hS1 : ∀ b, b ≠ w.heap.size → (wa.setCell ⟨w.heap.size, 1, none⟩ (.slice (some ⟨g5, 0, none⟩) 16 c5)).heap[b]? = wa.heap[b]? := fun b h => ne_set _ h
    have hsb := hsa.set1 (.slice (some ⟨g5, 0, none⟩) 16 c5)
    have hgb := hga.keep (w' := wa.setCell ⟨w.heap.size, 1, none⟩ (.slice (some ⟨g5, 0, none⟩) 16 c5)) (fun b hb => hS1 b (by have := hD b hb; omega))
    have hob := hoa.keep (w' := wa.setCell ⟨w.heap.size, 1, none⟩ (.slice (some ⟨g5, 0, none⟩) 16 c5)) (fun b hb => hS1 b (by simp [Value.ownBlock] at hb; omega))
    have hzb := hide (show (wa.setCell ⟨w.heap.size, 1, none⟩ (.slice (some ⟨g5, 0, none⟩) 16 c5)).heap.size = wa.heap.size by simp)
    clear xx0 xx1 xx2 xf0 xf1 xf2 hsa hga hoa hS1
    generalize wa.setCell ⟨w.heap.size, 1, none⟩ (.slice (some ⟨g5, 0, none⟩) 16 c5) = wb at *
    obtain ⟨xx0, xx1, xx2, xf0, xf1, xf2⟩ := hsb.bx.cells
    obtain ⟨rr0, rr1, rr2, rr3, rr4, -⟩ := hsb.br.cells
    obtain ⟨yy0, yy1, yy2, yg0, yg1, yg2⟩ := hsb.ry.cells
    obtain ⟨ee0, ee1, ee2, ee3, ee4, ef0, ef1, ef2, ef3, ef4⟩ := hsb.be.cells
    have hgbw : g5 < wb.heap.size := by rw [hzb.out]; omega
    have hlxb := hsb.bx.lt
    have hleb := hsb.be.lt
    have hq0 := (hob.slAt encI_len).2.2.i64 hsl
    simp only [Nat.zero_add] at hq0
    have hqf := hob.frozen sq
    have hni1 : ¬ w.heap.size = g5 := by omega
    have hni2 : ¬ g5 = w.heap.size := by omega
    have hni3 : ¬ w.heap.size + 1 + 1 + 1 = g5 := by omega
    have hni4 : ¬ g5 = w.heap.size + 1 + 1 + 1 := by omega
    have hS2 : ∀ b, b ≠ g5 → b ≠ w.heap.size + 1 + 1 + 1 → ((wb.setCell ⟨g5, sq, none⟩ (.int .i64 (g.2.1[sq] - 1))).setCell ⟨w.heap.size + 1 + 1 + 1, 4, none⟩ (.int .i64 (g.1[k].2.2.2.2 + 1))).heap[b]? = wb.heap[b]? := fun b h1 h2 => (ne_set _ h2).trans (ne_set _ h1)
    have hs5x := hsb.other (a := ⟨g5, sq, none⟩) (by show _ ≤ g5; omega) (.int .i64 (g.2.1[sq] - 1))
    have hs5 := hs5x.setE (hs5x.be.set4 (g.1[k].2.2.2.2 + 1))
    try dsimp only at hs5
    have ho1 := hob.put1 encI_len hsl (g.2.1[sq] - 1) 0 (by omega) (.int .i64 (g.2.1[sq] - 1)) rfl
    rw [Nat.mul_one, Nat.add_zero] at ho1
    have ho2 := ho1.keep (w' := (wb.setCell ⟨g5, sq, none⟩ (.int .i64 (g.2.1[sq] - 1))).setCell ⟨w.heap.size + 1 + 1 + 1, 4, none⟩ (.int .i64 (g.1[k].2.2.2.2 + 1))) (fun b hb => ne_set _ (by simp [Value.ownBlock] at hb; omega))
    have hgc := hgb.keep (w' := (wb.setCell ⟨g5, sq, none⟩ (.int .i64 (g.2.1[sq] - 1))).setCell ⟨w.heap.size + 1 + 1 + 1, 4, none⟩ (.int .i64 (g.1[k].2.2.2.2 + 1))) (fun b hb => hS2 b (by have := hD b hb; omega) (by have := hD b hb; omega))
    have hg5 : GmD ((wb.setCell ⟨g5, sq, none⟩ (.int .i64 (g.2.1[sq] - 1))).setCell ⟨w.heap.size + 1 + 1 + 1, 4, none⟩ (.int .i64 (g.1[k].2.2.2.2 + 1))) (fun b => D b ∨ b = g5) (some ⟨b, off, none⟩) n c (some ⟨g5, 0, none⟩) 16 c5 E q f (g.1, g.2.1.set sq (g.2.1[sq] - 1), g.2.2) := ⟨hgc.en.mono (fun b hb => .inl hb), ho2.rdG encI_len (.inr rfl), hgc.la.mono (fun b hb => .inl hb), .inr ⟨b, off, rfl⟩⟩
    have hD5 : ∀ b, (D b ∨ b = g5) → b < ((wb.setCell ⟨g5, sq, none⟩ (.int .i64 (g.2.1[sq] - 1))).setCell ⟨w.heap.size + 1 + 1 + 1, 4, none⟩ (.int .i64 (g.1[k].2.2.2.2 + 1))).heap.size := fun b hb => by
      have : ((wb.setCell ⟨g5, sq, none⟩ (.int .i64 (g.2.1[sq] - 1))).setCell ⟨w.heap.size + 1 + 1 + 1, 4, none⟩ (.int .i64 (g.1[k].2.2.2.2 + 1))).heap.size = wb.heap.size := by simp
      rw [this]
      have := hzb.out
      rcases hb with hb | hb
      · have := hD b hb; omega
      · omega
    have hsp5 : ∀ b, (D b ∨ b = g5) → D b ∨ w.heap.size + 4 ≤ b := fun b hb => by
      rcases hb with hb | hb
      · exact .inl hb
      · exact .inr (by omega)
    clear hs5x ho1 ho2 hgc hgb hob hsb hS2
    have hlen5 := hide (show n = (g.1).length by exact hn'.out)
    have hzz := hide (show ((wb.setCell ⟨g5, sq, none⟩ (.int .i64 (g.2.1[sq] - 1))).setCell ⟨w.heap.size + 1 + 1 + 1, 4, none⟩ (.int .i64 (g.1[k].2.2.2.2 + 1))).heap.size = wb.heap.size by simp)
    have hown5 : Own encEnt 5 82 (((wb.setCell ⟨g5, sq, none⟩ (.int .i64 (g.2.1[sq] - 1))).setCell ⟨w.heap.size + 1 + 1 + 1, 4, none⟩ (.int .i64 (g.1[k].2.2.2.2 + 1))).alloc (.cells #[] 82)).drew wb.heap.size (.slice (some ⟨wb.heap.size, 0, none⟩) 0 0) [] := by
      have h := own_empty encEnt 5 82 ((wb.setCell ⟨g5, sq, none⟩ (.int .i64 (g.2.1[sq] - 1))).setCell ⟨w.heap.size + 1 + 1 + 1, 4, none⟩ (.int .i64 (g.1[k].2.2.2.2 + 1)))
      rw [hzz.out] at h
      exact h
    have hA5 := ((Below.refl ((wb.setCell ⟨g5, sq, none⟩ (.int .i64 (g.2.1[sq] - 1))).setCell ⟨w.heap.size + 1 + 1 + 1, 4, none⟩ (.int .i64 (g.1[k].2.2.2.2 + 1))).heap.size ((wb.setCell ⟨g5, sq, none⟩ (.int .i64 (g.2.1[sq] - 1))).setCell ⟨w.heap.size + 1 + 1 + 1, 4, none⟩ (.int .i64 (g.1[k].2.2.2.2 + 1)))).alloc (Nat.le_refl _) (.cells #[] 82)).drew
    have hsl5 : Hid (Sl encEnt 5 ((((wb.setCell ⟨g5, sq, none⟩ (.int .i64 (g.2.1[sq] - 1))).setCell ⟨w.heap.size + 1 + 1 + 1, 4, none⟩ (.int .i64 (g.1[k].2.2.2.2 + 1))).alloc (.cells #[] 82)).drew) 0 ((wb.setCell ⟨g5, sq, none⟩ (.int .i64 (g.2.1[sq] - 1))).setCell ⟨w.heap.size + 1 + 1 + 1, 4, none⟩ (.int .i64 (g.1[k].2.2.2.2 + 1))).heap.size (some ⟨b, off, none⟩) (g.1)) := hide ((hg5.en.sl hD5).below hA5 (Nat.le_refl _))
    have hz5 := hs5.sz
    have hlx5 := hs5.bx.lt
    have hlr5 := hs5.br.lt
    have hly5 := hs5.ry.lt
    have hle5 := hs5.be.lt
    have hd5' := hide hD5
    have hsp5' := hide hsp5
    clear hD5 hsp5
    refine wp_region_T (fun _ => True) [] [] [] [0, 1, 2, 3, 4, 5, 6, 7, 8, 9, 10] (by kernel_rfl) (by kernel_rfl) (by kernel_rfl) trivial ?_; simp only [pickL, List.getElem?_cons_succ, List.getElem?_cons_zero]
    go_wp2_with (first
      | ((with_reducible refine wpT_q0 ?_ ?_ ?_ ?_); (focus rfl); (focus rfl); (focus rfl); intro K hK) | ((with_reducible refine wpT_x0 ?_ ?_ ?_); (focus rfl); (focus rfl); intro K hK) | ((with_reducible refine wpT_noL ?_ ?_); (focus (first | exact wanted_no _ _ _ rfl rfl rfl | exact wanted_un _ _ _ rfl rfl rfl)); simp only [setO, List.set_cons_succ, List.set_cons_zero]) | ((with_reducible refine wpT_q1 ?_ ?_ ?_ ?_); (focus exact wanted_yes _ _ _ rfl rfl rfl); (focus rfl); (focus rfl); intro K hK) | ((with_reducible refine wpT_x1 ?_ ?_ ?_); (focus exact wanted_yes _ _ _ rfl rfl rfl); (focus rfl); intro K hK) | ((with_reducible refine wpT_nil ?_); try dsimp only)
      | (at_builtin; generalize (wb.setCell ⟨g5, sq, none⟩ (.int .i64 (g.2.1[sq] - 1))).setCell ⟨w.heap.size + 1 + 1 + 1, 4, none⟩ (.int .i64 (g.1[k].2.2.2.2 + 1)) = w5 at *; refine wpList_app encEnt_len (by omega) encEnt_one rfl _ _ 33 rfl 82 _ 40 Tryd.underlying33 infoEnt rfl wb.heap.size _ [] rfl hown5 0 w5.heap.size _ (g.1) _ _ rfl hlen5.out hsl5.out (by have h1 := hn4.out; have h2 := hlen5.out; simp only [List.length_nil, maxLen]; omega) (by have h1 := hzz.out; have h2 := hA5.size; omega) ?_)
      | fail)
    intro v6 w6 ho6 hgr6 hb6
    try rw [List.nil_append] at ho6
    obtain ⟨g6, c6, rfl, hg61, hg62, hc61, hc62⟩ := ho6.at0 (by have := hlen5.out; omega)
    rw [← hlen5.out] at ho6 hc61 ⊢
    unfold maxLen at hc62
    have hb56 := hA5.trans (hb6.mono (by have := hzz.out; omega))
    have hs6 := hs5.below hb56 hz5
    have hg6 := hg5.below hb56 hd5'.out
    have hz56 := hb56.size
    have hzz' := hzz.out
    clear xx0 xx1 xx2 xf0 xf1 xf2 rr0 rr1 rr2 rr3 rr4 yy0 yy1 yy2 yg0 yg1 yg2 ee0 ee1 ee2 ee3 ee4 ef0 ef1 ef2 ef3 ef4 hown5 hA5 hsl5 hgr6 hb6
    obtain ⟨xx0, xx1, xx2, xf0, xf1, xf2⟩ := hs6.bx.cells
    obtain ⟨yy0, yy1, yy2, yg0, yg1, yg2⟩ := hs6.ry.cells
    obtain ⟨ee0, ee1, ee2, ee3, ee4, ef0, ef1, ef2, ef3, ef4⟩ := hs6.be.cells
    try dsimp only at ee0 ee1 ee2 ee3 ee4
    have hk6 : k < (g.1).length := by have := hlen5.out; omega
    obtain ⟨d0, d1, d2, d3, d4⟩ := (ho6.slAt encEnt_len).2.2.getEnt hk6
    simp only [Nat.zero_add] at d0 d1 d2 d3 d4
    have df0 := ho6.frozen (k * 5)
    have df1 := ho6.frozen (k * 5 + 1)
    have df2 := ho6.frozen (k * 5 + 2)
    have df3 := ho6.frozen (k * 5 + 3)
    have df4 := ho6.frozen (k * 5 + 4)
    have hne1 : ¬ w.heap.size = g6 := by omega
    have hne2 : ¬ g6 = w.heap.size := by omega
    have hne3 : ¬ w.heap.size + 1 + 1 = g6 := by omega
    have hne4 : ¬ g6 = w.heap.size + 1 + 1 := by omega
    have hne5 : ¬ w.heap.size + 1 + 1 + 1 = g6 := by omega
    have hne6 : ¬ g6 = w.heap.size + 1 + 1 + 1 := by omega
    have hlx6 := hs6.bx.lt
    have hly6 := hs6.ry.lt
    have hle6 := hs6.be.lt
    have hfin : Hid (GmD (((((((w6.setCell ⟨w.heap.size, 0, none⟩ (.slice (some ⟨g6, 0, none⟩) n c6)).setCell ⟨g6, k * 5, none⟩ (.int .i64 (g.1[k].1, g.1[k].2.1, g.1[k].2.2.1, g.1[k].2.2.2.1, g.1[k].2.2.2.2 + 1).1)).setCell ⟨g6, k * 5 + 1, none⟩ (.int .i64 (g.1[k].1, g.1[k].2.1, g.1[k].2.2.1, g.1[k].2.2.2.1, g.1[k].2.2.2.2 + 1).2.1)).setCell ⟨g6, k * 5 + 2, none⟩ (.int .i64 (g.1[k].1, g.1[k].2.1, g.1[k].2.2.1, g.1[k].2.2.2.1, g.1[k].2.2.2.2 + 1).2.2.1)).setCell ⟨g6, k * 5 + 3, none⟩ (.int .i64 (g.1[k].1, g.1[k].2.1, g.1[k].2.2.1, g.1[k].2.2.2.1, g.1[k].2.2.2.2 + 1).2.2.2.1)).setCell ⟨g6, k * 5 + 4, none⟩ (.int .i64 (g.1[k].1, g.1[k].2.1, g.1[k].2.2.1, g.1[k].2.2.2.1, g.1[k].2.2.2.2 + 1).2.2.2.2))) (fun b => (fun b => D b ∨ b = g5) b ∨ b = g6) (some ⟨g6, 0, none⟩) n c6 (some ⟨g5, 0, none⟩) 16 c5 E q f ((g.1).set k (g.1[k].1, g.1[k].2.1, g.1[k].2.2.1, g.1[k].2.2.2.1, g.1[k].2.2.2.2 + 1), g.2.1.set sq (g.2.1[sq] - 1), g.2.2) ∧ Below w.heap.size w (((((((w6.setCell ⟨w.heap.size, 0, none⟩ (.slice (some ⟨g6, 0, none⟩) n c6)).setCell ⟨g6, k * 5, none⟩ (.int .i64 (g.1[k].1, g.1[k].2.1, g.1[k].2.2.1, g.1[k].2.2.2.1, g.1[k].2.2.2.2 + 1).1)).setCell ⟨g6, k * 5 + 1, none⟩ (.int .i64 (g.1[k].1, g.1[k].2.1, g.1[k].2.2.1, g.1[k].2.2.2.1, g.1[k].2.2.2.2 + 1).2.1)).setCell ⟨g6, k * 5 + 2, none⟩ (.int .i64 (g.1[k].1, g.1[k].2.1, g.1[k].2.2.1, g.1[k].2.2.2.1, g.1[k].2.2.2.2 + 1).2.2.1)).setCell ⟨g6, k * 5 + 3, none⟩ (.int .i64 (g.1[k].1, g.1[k].2.1, g.1[k].2.2.1, g.1[k].2.2.2.1, g.1[k].2.2.2.2 + 1).2.2.2.1)).setCell ⟨g6, k * 5 + 4, none⟩ (.int .i64 (g.1[k].1, g.1[k].2.1, g.1[k].2.2.1, g.1[k].2.2.2.1, g.1[k].2.2.2.2 + 1).2.2.2.2))) ∧ (((((((w6.setCell ⟨w.heap.size, 0, none⟩ (.slice (some ⟨g6, 0, none⟩) n c6)).setCell ⟨g6, k * 5, none⟩ (.int .i64 (g.1[k].1, g.1[k].2.1, g.1[k].2.2.1, g.1[k].2.2.2.1, g.1[k].2.2.2.2 + 1).1)).setCell ⟨g6, k * 5 + 1, none⟩ (.int .i64 (g.1[k].1, g.1[k].2.1, g.1[k].2.2.1, g.1[k].2.2.2.1, g.1[k].2.2.2.2 + 1).2.1)).setCell ⟨g6, k * 5 + 2, none⟩ (.int .i64 (g.1[k].1, g.1[k].2.1, g.1[k].2.2.1, g.1[k].2.2.2.1, g.1[k].2.2.2.2 + 1).2.2.1)).setCell ⟨g6, k * 5 + 3, none⟩ (.int .i64 (g.1[k].1, g.1[k].2.1, g.1[k].2.2.1, g.1[k].2.2.2.1, g.1[k].2.2.2.2 + 1).2.2.2.1)).setCell ⟨g6, k * 5 + 4, none⟩ (.int .i64 (g.1[k].1, g.1[k].2.1, g.1[k].2.2.1, g.1[k].2.2.2.1, g.1[k].2.2.2.2 + 1).2.2.2.2))).heap.size = w6.heap.size) := by
      have hS1 : ∀ b, b ≠ w.heap.size → (w6.setCell ⟨w.heap.size, 0, none⟩ (.slice (some ⟨g6, 0, none⟩) n c6)).heap[b]? = w6.heap[b]? := fun b h => Below.heap_setCell w6 ⟨w.heap.size, 0, none⟩ _ b h
      have hS2 : ∀ b, b ≠ w.heap.size → b ≠ g6 → (((((((w6.setCell ⟨w.heap.size, 0, none⟩ (.slice (some ⟨g6, 0, none⟩) n c6)).setCell ⟨g6, k * 5, none⟩ (.int .i64 (g.1[k].1, g.1[k].2.1, g.1[k].2.2.1, g.1[k].2.2.2.1, g.1[k].2.2.2.2 + 1).1)).setCell ⟨g6, k * 5 + 1, none⟩ (.int .i64 (g.1[k].1, g.1[k].2.1, g.1[k].2.2.1, g.1[k].2.2.2.1, g.1[k].2.2.2.2 + 1).2.1)).setCell ⟨g6, k * 5 + 2, none⟩ (.int .i64 (g.1[k].1, g.1[k].2.1, g.1[k].2.2.1, g.1[k].2.2.2.1, g.1[k].2.2.2.2 + 1).2.2.1)).setCell ⟨g6, k * 5 + 3, none⟩ (.int .i64 (g.1[k].1, g.1[k].2.1, g.1[k].2.2.1, g.1[k].2.2.2.1, g.1[k].2.2.2.2 + 1).2.2.2.1)).setCell ⟨g6, k * 5 + 4, none⟩ (.int .i64 (g.1[k].1, g.1[k].2.1, g.1[k].2.2.1, g.1[k].2.2.2.1, g.1[k].2.2.2.2 + 1).2.2.2.2))).heap[b]? = w6.heap[b]? := fun b h h2 => (heap_putCells_other (encEnt (g.1[k].1, g.1[k].2.1, g.1[k].2.2.1, g.1[k].2.2.2.1, g.1[k].2.2.2.2 + 1)) (w6.setCell ⟨w.heap.size, 0, none⟩ (.slice (some ⟨g6, 0, none⟩) n c6)) g6 (k * 5) b h2).trans (hS1 b h)
      have h1 := ho6.keep (w' := w6.setCell ⟨w.heap.size, 0, none⟩ (.slice (some ⟨g6, 0, none⟩) n c6)) (fun b hb => hS1 b (by simp [Value.ownBlock] at hb; omega))
      have h2 := h1.put_ encEnt_len hkn (g.1[k].1, g.1[k].2.1, g.1[k].2.2.1, g.1[k].2.2.2.1, g.1[k].2.2.2.2 + 1)
      have h3 : Own encEnt 5 82 (((((((w6.setCell ⟨w.heap.size, 0, none⟩ (.slice (some ⟨g6, 0, none⟩) n c6)).setCell ⟨g6, k * 5, none⟩ (.int .i64 (g.1[k].1, g.1[k].2.1, g.1[k].2.2.1, g.1[k].2.2.2.1, g.1[k].2.2.2.2 + 1).1)).setCell ⟨g6, k * 5 + 1, none⟩ (.int .i64 (g.1[k].1, g.1[k].2.1, g.1[k].2.2.1, g.1[k].2.2.2.1, g.1[k].2.2.2.2 + 1).2.1)).setCell ⟨g6, k * 5 + 2, none⟩ (.int .i64 (g.1[k].1, g.1[k].2.1, g.1[k].2.2.1, g.1[k].2.2.2.1, g.1[k].2.2.2.2 + 1).2.2.1)).setCell ⟨g6, k * 5 + 3, none⟩ (.int .i64 (g.1[k].1, g.1[k].2.1, g.1[k].2.2.1, g.1[k].2.2.2.1, g.1[k].2.2.2.2 + 1).2.2.2.1)).setCell ⟨g6, k * 5 + 4, none⟩ (.int .i64 (g.1[k].1, g.1[k].2.1, g.1[k].2.2.1, g.1[k].2.2.2.1, g.1[k].2.2.2.2 + 1).2.2.2.2))) wb.heap.size (.slice (some ⟨g6, 0, none⟩) n c6) ((g.1).set k (g.1[k].1, g.1[k].2.1, g.1[k].2.2.1, g.1[k].2.2.2.1, g.1[k].2.2.2.2 + 1)) := h2
      have hd := hd5'.out
      have hsp := hsp5'.out
      have hno : ∀ b, (fun b => D b ∨ b = g5) b → b ≠ w.heap.size ∧ b ≠ g6 := fun b hb => by
        have e1 := hd b hb
        rcases hsp b hb with e2 | e2
        · have e3 := hD b e2; exact ⟨by omega, by omega⟩
        · exact ⟨by omega, by omega⟩
      refine ⟨⟨h3.rdG encEnt_len (.inr rfl), (hg6.fl.keep (fun b hb => hS2 b (hno b hb).1 (hno b hb).2)).mono (fun b hb => .inl hb), (hg6.la.keep (fun b hb => hS2 b (hno b hb).1 (hno b hb).2)).mono (fun b hb => .inl hb), .inr ⟨g6, 0, rfl⟩⟩, ?_, ?_⟩
      · exact below_putCells (encEnt (g.1[k].1, g.1[k].2.1, g.1[k].2.2.1, g.1[k].2.2.2.1, g.1[k].2.2.2.2 + 1)) (hs6.bel.setCell (Nat.le_refl _) _) (by omega)
      · exact (size_putCells (encEnt (g.1[k].1, g.1[k].2.1, g.1[k].2.2.1, g.1[k].2.2.2.1, g.1[k].2.2.2.2 + 1)) _ _ _).trans (by simp)
    clear ho6 hs5 hg5 hs6 hg6
    go_wp2
    refine bodyPost_ret (v := .tuple #[.agg #[.slice (some ⟨g6, 0, none⟩) n c6, .slice (some ⟨g5, 0, none⟩) 16 c5, .slice E q f], .int .i64 0]) (by simp [results, Tryd.results51, go_sem, yy0, yy1, yy2, yg0, yg1, yg2, hne1, hne2, hne3, hne4]) rfl ?_
    rw [hh.out]
    refine GmPost2.fin (x := w.heap.size) (y := w.heap.size + 1 + 1) (w9 := ((((((w6.setCell ⟨w.heap.size, 0, none⟩ (.slice (some ⟨g6, 0, none⟩) n c6)).setCell ⟨g6, k * 5, none⟩ (.int .i64 (g.1[k].1, g.1[k].2.1, g.1[k].2.2.1, g.1[k].2.2.2.1, g.1[k].2.2.2.2 + 1).1)).setCell ⟨g6, k * 5 + 1, none⟩ (.int .i64 (g.1[k].1, g.1[k].2.1, g.1[k].2.2.1, g.1[k].2.2.2.1, g.1[k].2.2.2.2 + 1).2.1)).setCell ⟨g6, k * 5 + 2, none⟩ (.int .i64 (g.1[k].1, g.1[k].2.1, g.1[k].2.2.1, g.1[k].2.2.2.1, g.1[k].2.2.2.2 + 1).2.2.1)).setCell ⟨g6, k * 5 + 3, none⟩ (.int .i64 (g.1[k].1, g.1[k].2.1, g.1[k].2.2.1, g.1[k].2.2.2.1, g.1[k].2.2.2.2 + 1).2.2.2.1)).setCell ⟨g6, k * 5 + 4, none⟩ (.int .i64 (g.1[k].1, g.1[k].2.1, g.1[k].2.2.1, g.1[k].2.2.2.1, g.1[k].2.2.2.2 + 1).2.2.2.2))) (D' := fun b => (fun b => D b ∨ b = g5) b ∨ b = g6) 0 (by (repeat (first | (with_reducible exact Onl.refl _ _ _) | (with_reducible exact Onl.drewL _ _ _) | (with_reducible refine Onl.set ?_ (by simp) _) | with_reducible refine Onl.drew ?_))) hfin.out.2.1 (Nat.le_refl _) (by omega) hfin.out.1 (fun b hb => ?_)
    rw [hfin.out.2.2]
    rcases hb with hb | hb
    · have e1 := hd5'.out b hb
      rcases hsp5'.out b hb with e2 | e2
      · have e3 := hD b e2; exact ⟨by omega, by omega, .inl e2⟩
      · exact ⟨by omega, by omega, .inr ⟨by omega, by omega⟩⟩
    · exact ⟨by omega, by omega, .inr ⟨by omega, by omega⟩⟩
  · have hh := hide (show actG g k r = (g, 7) by
      have h0 : g.2.1[sq] = 0 := by simpa using e1
      unfold actG; simp only [getD_at hk, hopp.out, hsqe'.out, hgd.out, h0, if_true]; rfl)
    go_enter Tryd.func51, Tryd.ntmps51
    go_wp2
    refine bodyPost_ret (v := .tuple #[.agg #[.slice (some ⟨b, off, none⟩) n c, .slice (some ⟨bB, offB, none⟩) 16 d, .slice E q f], .int .i64 7]) (by simp [results, Tryd.results51, go_sem, yy0, yy1, yy2, yg0, yg1, yg2]) rfl ?_
    rw [hh.out]
    refine GmPost2.same 7 hgH.out hD ?_
    exact (((Below.refl w.heap.size w).alloc (Nat.le_refl _) _).alloc (by simp) _).alloc (by simp only [World.size_alloc]; omega) _ |>.alloc (by simp only [World.size_alloc]; omega) _

theorem l2At_none (A : Option Addr) (n c : Nat) (B : Option Addr) (p d : Nat) (E : Option Addr) (q f : Nat) (lo hi : Nat) (es : List EntT) (cl : Int) (w : World) (hs : RdN 5 entR w lo hi A n c es) (hhi : hi ≤ w.heap.size) (h : figI es cl = none) :
    Calls Tryd.prog 49 #[.agg #[.slice A n c, .slice B p d, .slice E q f], .int .i64 cl] w fun e w' => e = .returned (.int .i64 (-1)) ∧ Below w.heap.size w w' := by
  have h2 := l2At_c A n c B p d E q f lo hi es cl w hs hhi
  rw [atI_opt, h] at h2
  exact h2
theorem l2At_some (A : Option Addr) (n c : Nat) (B : Option Addr) (p d : Nat) (E : Option Addr) (q f : Nat) (lo hi : Nat) (es : List EntT) (cl : Int) (w : World) (hs : RdN 5 entR w lo hi A n c es) (hhi : hi ≤ w.heap.size) (i : Nat) (h : figI es cl = some i) :
    Calls Tryd.prog 49 #[.agg #[.slice A n c, .slice B p d, .slice E q f], .int .i64 cl] w fun e w' => e = .returned (.int .i64 (i : Int)) ∧ Below w.heap.size w w' := by
  have h2 := l2At_c A n c B p d E q f lo hi es cl w hs hhi
  rw [atI_opt, h] at h2
  exact h2
theorem l2At_o (A : Option Addr) (n c : Nat) (B : Option Addr) (p d : Nat) (E : Option Addr) (q f : Nat) (lo hi : Nat) (es : List EntT) (cl : Int) (w : World) (hs : RdN 5 entR w lo hi A n c es) (hhi : hi ≤ w.heap.size) :
    Calls Tryd.prog 49 #[.agg #[.slice A n c, .slice B p d, .slice E q f], .int .i64 cl] w fun e w' => e = .returned (.int .i64 (optI (figI es cl))) ∧ Below w.heap.size w w' := by
  have h2 := l2At_c A n c B p d E q f lo hi es cl w hs hhi
  rw [atI_opt] at h2
  exact h2
theorem actG_hit (g : GameT) (k : Nat) (r : AskT) (h : r.2.2.1 = 4) : actG g k r = hitG g k (figI g.1 r.2.2.2.1) := by
  unfold actG
  have h2 : ¬ r.2.2.1 = 2 := by omega
  have h3 : ¬ r.2.2.1 = 3 := by omega
  simp only [h2, h3, if_false]
  cases hf : figI g.1 r.2.2.2.1 with
  | none => rfl
  | some n => exact hitG_other g k n r (by omega)

set_option maxRecDepth 100000 in
set_option maxHeartbeats 2000000 in
theorem l2ActHit (A : Option Addr) (n c : Nat) (B : Option Addr) (p d : Nat) (E : Option Addr) (q f : Nat) (D : Nat → Prop) (g : GameT) (k : Nat) (r : AskT) (w : World) (hg : GmD w D A n c B p d E q f g) (hD : ∀ b, D b → b < w.heap.size) (hok : okG' g) (hk : k < g.1.length) (hr : okA r) (hop : r.2.2.1 = 4) :
    Calls Tryd.prog 51 #[.agg #[.slice A n c, .slice B p d, .slice E q f], .int .i64 (k : Int), .agg #[.int .i64 r.1, .int .i64 r.2.1, .int .i64 r.2.2.1, .int .i64 r.2.2.2.1, .int .i64 r.2.2.2.2]] w fun e w' => GmPost2 w D (actG g k r) e w' := by
  have hn' := hide hg.en.len
  have hc1 := hg.en.cap
  have hc2 := hg.en.max
  unfold maxLen at hc2
  have hkn : k < n := by have := hn'.out; omega
  have hn4 : Hid (n ≤ 4) := hide (by
    have h1 := hok.ent
    have h3 := inc_len hok.inc (fun e he => (h1 e he).1)
    have := hn'.out
    omega)
  obtain ⟨b, off, rfl, hDb⟩ := hg.en.addr hk
  have hbw := hD b hDb
  have hbw1 : b < w.heap.size + 1 := by omega
  have hbw2 : b < w.heap.size + 1 + 1 := by omega
  have hbw3 : b < w.heap.size + 1 + 1 + 1 := by omega
  have hs4 := Ga.made w (.slice (some ⟨b, off, none⟩) n c) (.slice B p d) (.slice E q f) r g.1[k]
  have hg4 := hg.below hs4.bel hD
  have hek := (okG'.full hok).ent _ (List.getElem_mem hk)
  unfold entOk rng at hek
  unfold okA rng at hr
  obtain ⟨a0, a1, a2, a3, a4⟩ := hg.en.ent hk
  obtain ⟨xx0, xx1, xx2, xf0, xf1, xf2⟩ := hs4.bx.cells
  obtain ⟨rr0, rr1, rr2, rr3, rr4, -⟩ := hs4.br.cells
  obtain ⟨yy0, yy1, yy2, yg0, yg1, yg2⟩ := hs4.ry.cells
  obtain ⟨ee0, ee1, ee2, ee3, ee4, ef0, ef1, ef2, ef3, ef4⟩ := hs4.be.cells
  have hz4 := hs4.sz
  have hlx4 := hs4.bx.lt
  have hlr4 := hs4.br.lt
  have hly4 := hs4.ry.lt
  have hle4 := hs4.be.lt
  have hok' := hide hok
  have hh := hide (actG_hit g k r hop)
  have hq2 : (r.2.2.1 == 2) = false := by simp [hop]
  have hq3 : (r.2.2.1 == 3) = false := by simp [hop]
  have hq4 : (r.2.2.1 == 4) = true := by simp [hop]
  clear hop hr hok hg
  go_enter Tryd.func51, Tryd.ntmps51
  go_wp2
  generalize ((((w.alloc (.cells #[.slice (some ⟨b, off, none⟩) n c, .slice B p d, .slice E q f] 35)).alloc (.cells #[.int .i64 r.1, .int .i64 r.2.1, .int .i64 r.2.2.1, .int .i64 r.2.2.2.1, .int .i64 r.2.2.2.2] 37)).alloc (.cells #[.slice none 0 0, .slice none 0 0, .slice none 0 0] 35)).alloc (.cells #[.int .i64 g.1[k].1, .int .i64 g.1[k].2.1, .int .i64 g.1[k].2.2.1, .int .i64 g.1[k].2.2.2.1, .int .i64 g.1[k].2.2.2.2] 82)) = w4 at *
  have hsd := hide ((hg4.below (Below.refl w4.heap.size w4).drew (fun b hb => by have := hD b hb; omega)).en.rdn encEnt_len hD)
  refine wp_region_T (SinceB (w.heap.size + 1 + 1) _) [] [] [138] [0, 1, 2, 3, 4, 5, 6, 7, 8, 9, 10] (by kernel_rfl) (by kernel_rfl) (by kernel_rfl) (SinceB.drew _ _) ?_; simp only [pickL, List.getElem?_cons_succ, List.getElem?_cons_zero]
  go_wp2_with (first
    | (with_reducible refine SinceB.and_ ?_ ?_; (focus (repeat (first | (with_reducible exact SinceB.refl _ _) | (with_reducible assumption) | (with_reducible refine SinceB.drewR ?_) | ((with_reducible refine SinceB.alloc ?_ ?_ _); rotate_left; (focus (first | (with_reducible assumption) | (simp; done) | (simp; omega) | omega))) | ((with_reducible refine SinceB.set ?_ ?_ _); rotate_left; (focus (first | omega | (simp; done) | (simp; omega))))))); intro hS) | ((with_reducible refine wpT_noL ?_ ?_); (focus (first | exact wanted_no _ _ _ rfl rfl rfl | exact wanted_un _ _ _ rfl rfl rfl)); simp only [setO, List.set_cons_succ, List.set_cons_zero]) | ((with_reducible refine wpT_q0 ?_ ?_ ?_ ?_); (focus rfl); (focus rfl); (focus rfl); intro K hK) | ((with_reducible refine wpT_i ?_ ?_); (focus (refine ⟨_, _, _, _, _, _, _, _, rfl, rfl, rfl, rfl, rfl, ?_⟩; omega)); intro K hK) | ((with_reducible apply wpT_lB); (focus rfl); (focus rfl); (focus rfl); (focus rfl); (focus (first | exact SinceB.drew _ _ | (with_reducible assumption))); (focus (simp <;> omega)); (focus go_simp); intro K hK) | ((with_reducible apply wpT_lwB); (focus exact wanted_yes _ _ _ rfl rfl rfl); (focus rfl); (focus rfl); (focus rfl); (focus (first | exact SinceB.drew _ _ | (with_reducible assumption))); (focus (simp <;> omega)); (focus go_simp); intro K hK) | ((with_reducible refine wpT_xs0 ?_ ?_ ?_); (focus rfl); (focus rfl); intro K hK) | ((with_reducible refine wpT_q1 ?_ ?_ ?_ ?_); (focus exact wanted_yes _ _ _ rfl rfl rfl); (focus rfl); (focus rfl); intro K hK) | ((with_reducible refine wpT_xs1 ?_ ?_ ?_); (focus exact wanted_yes _ _ _ rfl rfl rfl); (focus rfl); intro K hK) | ((with_reducible refine wpT_nil ?_); try dsimp only)
    | (go_at_call 79; refine (l2Hit_c (some ⟨b, off, none⟩) n c B p d E q f D g k (figI g.1 r.2.2.2.1) _ hg5.out (fun b hb => by have := hD b hb; omega) hok'.out hk (fun i h => figI_lt h)).mono ?_; rintro e w6 ⟨A6, n6, c6, B6, p6, d6, E6, q6, f6, rfl, hg6, hb6⟩; have hs6 := hs5.below hb6 hz5; clear yy0 yy1 yy2 yg0 yg1 yg2; obtain ⟨yy0, yy1, yy2, yg0, yg1, yg2⟩ := hs6.ry.cells; have hSB6 := hSB5.below hb6 (show w.heap.size + 1 + 1 ≤ w5.heap.size by omega))
    | (go_at_call 49; refine (l2At_o (some ⟨b, off, none⟩) n c B p d E q f 0 w.heap.size g.1 r.2.2.2.1 _ hsd.out (by show w.heap.size ≤ w4.heap.size; omega)).mono ?_; rintro e w5 ⟨rfl, hb5⟩; have hb45 : Below w4.heap.size w4 w5 := (Below.drew (Below.refl _ _)).trans hb5; have hs5 := hs4.below hb45 hz4; have hg5 := hide (hg4.below hb45 (fun b hb => by have := hD b hb; omega)); have hz5 := hs5.sz; have hSB5 : SinceB (w.heap.size + 1 + 1) w4 w5 := (SinceB.refl _ _).below hb45 (by omega))
    | fail)
  refine bodyPost_ret (v := .tuple #[.agg #[.slice A6 n6 c6, .slice B6 p6 d6, .slice E6 q6 f6], .int .i64 (hitG g k (figI g.1 r.2.2.2.1)).2]) (by simp [results, Tryd.results51, go_sem, yy0, yy1, yy2, yg0, yg1, yg2]) rfl ?_
  rw [hh.out]
  refine GmPost2.fin (x := w.heap.size) (y := w.heap.size + 1 + 1) (w9 := w6) (D' := Dn D w5 w6) _ (by (repeat (first | (with_reducible exact Onl.refl _ _ _) | (with_reducible exact Onl.drewL _ _ _) | (with_reducible refine Onl.set ?_ (by simp) _) | with_reducible refine Onl.drew ?_))) hs6.bel (Nat.le_refl _) (by omega) hg6 (fun b hb => ?_)
  rcases hb with hb | hb
  · have := hD b hb; exact ⟨by omega, by omega, .inl hb⟩
  · exact ⟨by omega, by omega, .inr ⟨by omega, by omega⟩⟩
end Go.Proofs.YtajmfonepnkofaaDoor
namespace Go.Proofs.YtajmfonepnkofaaDoor
open Go.RowKit Rg
set_option linter.unusedVariables false
set_option linter.unusedSimpArgs false
theorem actG_give_none (g : GameT) (k : Nat) (r : AskT) (h : r.2.2.1 = 5) (hf : figI g.1 r.2.2.2.1 = none) : actG g k r = (g, 8) := by
  unfold actG
  have h2 : ¬ r.2.2.1 = 2 := by omega
  have h3 : ¬ r.2.2.1 = 3 := by omega
  simp only [h2, h3, if_false, hf]
theorem actG_give_some (g : GameT) (k : Nat) (r : AskT) (h : r.2.2.1 = 5) {i : Nat} (hf : figI g.1 r.2.2.2.1 = some i) (hk : k < g.1.length) : actG g k r = if i = k ∨ ¬ nearE g.1[k] (g.1[i]'(figI_lt hf)) then (g, 8) else if g.1[k].2.2.2.2 < r.2.2.2.2 then (g, 7) else (((g.1.set i (entG (g.1[i]'(figI_lt hf)) r.2.2.2.2)).set k (entG g.1[k] (- r.2.2.2.2)), g.2.1, g.2.2), 0) := by
  unfold actG other
  have h2 : ¬ r.2.2.1 = 2 := by omega
  have h3 : ¬ r.2.2.1 = 3 := by omega
  simp only [h2, h3, if_false, hf, getD_at hk, getD_at (figI_lt hf)]
  rw [if_pos h]

set_option maxRecDepth 100000 in
set_option maxHeartbeats 2000000 in
theorem l2ActGive (A : Option Addr) (n c : Nat) (B : Option Addr) (p d : Nat) (E : Option Addr) (q f : Nat) (D : Nat → Prop) (g : GameT) (k : Nat) (r : AskT) (w : World) (hg : GmD w D A n c B p d E q f g) (hD : ∀ b, D b → b < w.heap.size) (hok : okG' g) (hk : k < g.1.length) (hr : okA r) (hop : r.2.2.1 = 5) :
    Calls Tryd.prog 51 #[.agg #[.slice A n c, .slice B p d, .slice E q f], .int .i64 (k : Int), .agg #[.int .i64 r.1, .int .i64 r.2.1, .int .i64 r.2.2.1, .int .i64 r.2.2.2.1, .int .i64 r.2.2.2.2]] w fun e w' => GmPost2 w D (actG g k r) e w' := by
  have hn' := hide hg.en.len
  have hc1 := hg.en.cap
  have hc2 := hg.en.max
  unfold maxLen at hc2
  have hkn : k < n := by have := hn'.out; omega
  have hn4 : Hid (n ≤ 4) := hide (by
    have h1 := hok.ent
    have h3 := inc_len hok.inc (fun e he => (h1 e he).1)
    have := hn'.out
    omega)
  obtain ⟨b, off, rfl, hDb⟩ := hg.en.addr hk
  have hbw := hD b hDb
  have hbw1 : b < w.heap.size + 1 := by omega
  have hbw2 : b < w.heap.size + 1 + 1 := by omega
  have hbw3 : b < w.heap.size + 1 + 1 + 1 := by omega
  have hs4 := Ga.made w (.slice (some ⟨b, off, none⟩) n c) (.slice B p d) (.slice E q f) r g.1[k]
  have hg4 := hg.below hs4.bel hD
  have hek := (okG'.full hok).ent _ (List.getElem_mem hk)
  unfold entOk rng at hek
  unfold okA rng at hr
  obtain ⟨a0, a1, a2, a3, a4⟩ := hg.en.ent hk
  obtain ⟨xx0, xx1, xx2, xf0, xf1, xf2⟩ := hs4.bx.cells
  obtain ⟨rr0, rr1, rr2, rr3, rr4, -⟩ := hs4.br.cells
  obtain ⟨yy0, yy1, yy2, yg0, yg1, yg2⟩ := hs4.ry.cells
  obtain ⟨ee0, ee1, ee2, ee3, ee4, ef0, ef1, ef2, ef3, ef4⟩ := hs4.be.cells
  have hz4 := hs4.sz
  have hlx4 := hs4.bx.lt
  have hlr4 := hs4.br.lt
  have hly4 := hs4.ry.lt
  have hle4 := hs4.be.lt
  have hok' := hide hok
  have hopp := hide hop
  have hr' := hide hr
  have hq2 : (r.2.2.1 == 2) = false := by simp [hop]
  have hq3 : (r.2.2.1 == 3) = false := by simp [hop]
  have hq4 : (r.2.2.1 == 4) = false := by simp [hop]
  have hY : 1 ≤ r.2.2.2.2 ∧ r.2.2.2.2 ≤ 9 := by omega
  clear hop hr hg
  cases hfi : figI g.1 r.2.2.2.1 with
  | none =>
    have hh := hide (actG_give_none g k r hopp.out hfi)
    clear hok
    go_enter Tryd.func51, Tryd.ntmps51
    go_wp2_with fail
    generalize ((((w.alloc (.cells #[.slice (some ⟨b, off, none⟩) n c, .slice B p d, .slice E q f] 35)).alloc (.cells #[.int .i64 r.1, .int .i64 r.2.1, .int .i64 r.2.2.1, .int .i64 r.2.2.2.1, .int .i64 r.2.2.2.2] 37)).alloc (.cells #[.slice none 0 0, .slice none 0 0, .slice none 0 0] 35)).alloc (.cells #[.int .i64 g.1[k].1, .int .i64 g.1[k].2.1, .int .i64 g.1[k].2.2.1, .int .i64 g.1[k].2.2.2.1, .int .i64 g.1[k].2.2.2.2] 82)) = w4 at *
    have hsd := hide (hg4.en.rdn encEnt_len hD)
    refine (l2At_none (some ⟨b, off, none⟩) n c B p d E q f 0 w.heap.size g.1 r.2.2.2.1 _ hsd.out (by show w.heap.size ≤ w4.heap.size; omega) hfi).mono ?_
    rintro e w5 ⟨rfl, hb5⟩
    have hs5 := hs4.below hb5 hz4
    have hg5 := hg4.below hb5 (fun b hb => by have := hD b hb; omega)
    have hz5 := hs5.sz
    clear xx0 xx1 xx2 xf0 xf1 xf2 rr0 rr1 rr2 rr3 rr4 yy0 yy1 yy2 yg0 yg1 yg2 ee0 ee1 ee2 ee3 ee4 ef0 ef1 ef2 ef3 ef4 hs4 hg4
    obtain ⟨xx0, xx1, xx2, xf0, xf1, xf2⟩ := hs5.bx.cells
    obtain ⟨rr0, rr1, rr2, rr3, rr4, -⟩ := hs5.br.cells
    obtain ⟨yy0, yy1, yy2, yg0, yg1, yg2⟩ := hs5.ry.cells
    obtain ⟨ee0, ee1, ee2, ee3, ee4, ef0, ef1, ef2, ef3, ef4⟩ := hs5.be.cells
    go_wp2
    refine wp_region_T (fun _ => True) [] [] [] [0, 1, 2, 3, 4, 5, 6, 7, 8, 9, 10, 11, 12, 13, 14, 15, 16] (by kernel_rfl) (by kernel_rfl) (by kernel_rfl) trivial ?_; simp only [pickL, List.getElem?_cons_succ, List.getElem?_cons_zero]
    go_wp2_with (first
      | ((with_reducible refine wpT_q0 ?_ ?_ ?_ ?_); (focus rfl); (focus rfl); (focus rfl); intro K hK) | ((with_reducible refine wpT_x0 ?_ ?_ ?_); (focus rfl); (focus rfl); intro K hK) | ((with_reducible refine wpT_noL ?_ ?_); (focus (first | exact wanted_no _ _ _ rfl rfl rfl | exact wanted_un _ _ _ rfl rfl rfl)); simp only [setO, List.set_cons_succ, List.set_cons_zero]) | ((with_reducible refine wpT_q1 ?_ ?_ ?_ ?_); (focus exact wanted_yes _ _ _ rfl rfl rfl); (focus rfl); (focus rfl); intro K hK) | ((with_reducible refine wpT_x1 ?_ ?_ ?_); (focus exact wanted_yes _ _ _ rfl rfl rfl); (focus rfl); intro K hK) | ((with_reducible refine wpT_nil ?_); try dsimp only)
      | fail)
    refine bodyPost_ret (v := .tuple #[.agg #[.slice (some ⟨b, off, none⟩) n c, .slice B p d, .slice E q f], .int .i64 8]) (by simp [results, Tryd.results51, go_sem, yy0, yy1, yy2, yg0, yg1, yg2]) rfl ?_
    rw [hh.out]
    exact GmPost2.fin (x := w.heap.size) (y := w.heap.size + 1 + 1) (w9 := w5) (D' := D) 8 (by (repeat (first | (with_reducible exact Onl.refl _ _ _) | (with_reducible exact Onl.drewL _ _ _) | (with_reducible refine Onl.set ?_ (by simp) _) | with_reducible refine Onl.drew ?_))) hs5.bel (Nat.le_refl _) (by omega) hg5 (fun b hb => by have := hD b hb; exact ⟨by omega, by omega, .inl hb⟩)
  | some i =>
    have hi := figI_lt hfi
    have hin : i < n := by have := hn'.out; omega
    have hei := (okG'.full hok).ent _ (List.getElem_mem hi)
    unfold entOk rng at hei
    have hact := hide (actG_give_some g k r hopp.out hfi hk)
    clear hok
    by_cases hik : i = k
    · have hh := hide (show actG g k r = (g, 8) by rw [hact.out, if_pos (.inl hik)])
      have hik' : (((k : Nat) : Int) == ((i : Nat) : Int)) = true := by simp [hik]
      have hik2 : (((i : Nat) : Int) == ((k : Nat) : Int)) = true := by simp [hik]
      have hikh := hide hik
      clear hik
      go_enter Tryd.func51, Tryd.ntmps51
      go_wp2_with fail
      generalize ((((w.alloc (.cells #[.slice (some ⟨b, off, none⟩) n c, .slice B p d, .slice E q f] 35)).alloc (.cells #[.int .i64 r.1, .int .i64 r.2.1, .int .i64 r.2.2.1, .int .i64 r.2.2.2.1, .int .i64 r.2.2.2.2] 37)).alloc (.cells #[.slice none 0 0, .slice none 0 0, .slice none 0 0] 35)).alloc (.cells #[.int .i64 g.1[k].1, .int .i64 g.1[k].2.1, .int .i64 g.1[k].2.2.1, .int .i64 g.1[k].2.2.2.1, .int .i64 g.1[k].2.2.2.2] 82)) = w4 at *
      have hsd := hide (hg4.en.rdn encEnt_len hD)
      refine (l2At_some (some ⟨b, off, none⟩) n c B p d E q f 0 w.heap.size g.1 r.2.2.2.1 _ hsd.out (by show w.heap.size ≤ w4.heap.size; omega) i hfi).mono ?_
      rintro e w5 ⟨rfl, hb5⟩
      have hs5 := hs4.below hb5 hz4
      have hg5 := hg4.below hb5 (fun b hb => by have := hD b hb; omega)
      have hz5 := hs5.sz
      clear xx0 xx1 xx2 xf0 xf1 xf2 rr0 rr1 rr2 rr3 rr4 yy0 yy1 yy2 yg0 yg1 yg2 ee0 ee1 ee2 ee3 ee4 ef0 ef1 ef2 ef3 ef4 hs4 hg4
      obtain ⟨xx0, xx1, xx2, xf0, xf1, xf2⟩ := hs5.bx.cells
      obtain ⟨rr0, rr1, rr2, rr3, rr4, -⟩ := hs5.br.cells
      obtain ⟨yy0, yy1, yy2, yg0, yg1, yg2⟩ := hs5.ry.cells
      obtain ⟨ee0, ee1, ee2, ee3, ee4, ef0, ef1, ef2, ef3, ef4⟩ := hs5.be.cells
      go_wp2
      refine wp_region_T (fun _ => True) [] [] [] [0, 1, 2, 3, 4, 5, 6, 7, 8, 9, 10, 11, 12, 13, 14, 15, 16] (by kernel_rfl) (by kernel_rfl) (by kernel_rfl) trivial ?_; simp only [pickL, List.getElem?_cons_succ, List.getElem?_cons_zero]
      go_wp2_with (first
        | ((with_reducible refine wpT_q0 ?_ ?_ ?_ ?_); (focus rfl); (focus rfl); (focus rfl); intro K hK) | ((with_reducible refine wpT_x0 ?_ ?_ ?_); (focus rfl); (focus rfl); intro K hK) | ((with_reducible refine wpT_noL ?_ ?_); (focus (first | exact wanted_no _ _ _ rfl rfl rfl | exact wanted_un _ _ _ rfl rfl rfl)); simp only [setO, List.set_cons_succ, List.set_cons_zero]) | ((with_reducible refine wpT_q1 ?_ ?_ ?_ ?_); (focus exact wanted_yes _ _ _ rfl rfl rfl); (focus rfl); (focus rfl); intro K hK) | ((with_reducible refine wpT_x1 ?_ ?_ ?_); (focus exact wanted_yes _ _ _ rfl rfl rfl); (focus rfl); intro K hK) | ((with_reducible refine wpT_nil ?_); try dsimp only)
        | fail)
      refine bodyPost_ret (v := .tuple #[.agg #[.slice (some ⟨b, off, none⟩) n c, .slice B p d, .slice E q f], .int .i64 8]) (by simp [results, Tryd.results51, go_sem, yy0, yy1, yy2, yg0, yg1, yg2]) rfl ?_
      rw [hh.out]
      exact GmPost2.fin (x := w.heap.size) (y := w.heap.size + 1 + 1) (w9 := w5) (D' := D) 8 (by (repeat (first | (with_reducible exact Onl.refl _ _ _) | (with_reducible exact Onl.drewL _ _ _) | (with_reducible refine Onl.set ?_ (by simp) _) | with_reducible refine Onl.drew ?_))) hs5.bel (Nat.le_refl _) (by omega) hg5 (fun b hb => by have := hD b hb; exact ⟨by omega, by omega, .inl hb⟩)
    · have hik' : (((k : Nat) : Int) == ((i : Nat) : Int)) = false := by simp; omega
      have hik2 : (((i : Nat) : Int) == ((k : Nat) : Int)) = false := by simp; omega
      have hikh := hide hik
      clear hik
      cases e1 : decide (nearE g.1[k] g.1[i])
      · have hno := hide (show ¬ nearE g.1[k] g.1[i] by simpa using e1)
        have hh := hide (show actG g k r = (g, 8) by rw [hact.out, if_pos (.inr hno.out)])
        go_enter Tryd.func51, Tryd.ntmps51
        go_wp2_with fail
        generalize ((((w.alloc (.cells #[.slice (some ⟨b, off, none⟩) n c, .slice B p d, .slice E q f] 35)).alloc (.cells #[.int .i64 r.1, .int .i64 r.2.1, .int .i64 r.2.2.1, .int .i64 r.2.2.2.1, .int .i64 r.2.2.2.2] 37)).alloc (.cells #[.slice none 0 0, .slice none 0 0, .slice none 0 0] 35)).alloc (.cells #[.int .i64 g.1[k].1, .int .i64 g.1[k].2.1, .int .i64 g.1[k].2.2.1, .int .i64 g.1[k].2.2.2.1, .int .i64 g.1[k].2.2.2.2] 82)) = w4 at *
        have hsd := hide (hg4.en.rdn encEnt_len hD)
        refine (l2At_some (some ⟨b, off, none⟩) n c B p d E q f 0 w.heap.size g.1 r.2.2.2.1 _ hsd.out (by show w.heap.size ≤ w4.heap.size; omega) i hfi).mono ?_
        rintro e w5 ⟨rfl, hb5⟩
        have hs5 := hs4.below hb5 hz4
        have hg5 := hg4.below hb5 (fun b hb => by have := hD b hb; omega)
        have hz5 := hs5.sz
        clear xx0 xx1 xx2 xf0 xf1 xf2 rr0 rr1 rr2 rr3 rr4 yy0 yy1 yy2 yg0 yg1 yg2 ee0 ee1 ee2 ee3 ee4 ef0 ef1 ef2 ef3 ef4 hs4 hg4
        obtain ⟨xx0, xx1, xx2, xf0, xf1, xf2⟩ := hs5.bx.cells
        obtain ⟨rr0, rr1, rr2, rr3, rr4, -⟩ := hs5.br.cells
        obtain ⟨yy0, yy1, yy2, yg0, yg1, yg2⟩ := hs5.ry.cells
        obtain ⟨ee0, ee1, ee2, ee3, ee4, ef0, ef1, ef2, ef3, ef4⟩ := hs5.be.cells
        obtain ⟨b0, b1, b2, b3, b4⟩ := hg5.en.ent hi
        go_wp2
        refine wp_region_T (fun _ => True) [] [] [] [0, 1, 2, 3, 4, 5, 6, 7, 8, 9, 10, 11, 12, 13, 14, 15, 16] (by kernel_rfl) (by kernel_rfl) (by kernel_rfl) trivial ?_; simp only [pickL, List.getElem?_cons_succ, List.getElem?_cons_zero]
        go_wp2_with (first
          | ((with_reducible refine wpT_q0 ?_ ?_ ?_ ?_); (focus rfl); (focus rfl); (focus rfl); intro K hK) | ((with_reducible refine wpT_x0 ?_ ?_ ?_); (focus rfl); (focus rfl); intro K hK) | ((with_reducible refine wpT_noL ?_ ?_); (focus (first | exact wanted_no _ _ _ rfl rfl rfl | exact wanted_un _ _ _ rfl rfl rfl)); simp only [setO, List.set_cons_succ, List.set_cons_zero]) | ((with_reducible refine wpT_q1 ?_ ?_ ?_ ?_); (focus exact wanted_yes _ _ _ rfl rfl rfl); (focus rfl); (focus rfl); intro K hK) | ((with_reducible refine wpT_x1 ?_ ?_ ?_); (focus exact wanted_yes _ _ _ rfl rfl rfl); (focus rfl); intro K hK) | ((with_reducible refine wpT_nil ?_); try dsimp only)
          | (go_at_call 80; refine (l2Near_c g.1[k] g.1[i] _ ⟨hek.2.1, hek.2.2.1⟩ ⟨hei.2.1, hei.2.2.1⟩).mono ?_; rintro e w6 ⟨rfl, hb6⟩; have hb56 : Below w5.heap.size w5 w6 := (Below.drew (Below.refl _ _)).trans hb6; have hs6 := hs5.below hb56 hz5; have hg6 := hg5.below hb56 (fun b hb => by have := hD b hb; omega); have hz6 := hs6.sz; clear xx0 xx1 xx2 xf0 xf1 xf2 rr0 rr1 rr2 rr3 rr4 yy0 yy1 yy2 yg0 yg1 yg2 ee0 ee1 ee2 ee3 ee4 ef0 ef1 ef2 ef3 ef4; obtain ⟨xx0, xx1, xx2, xf0, xf1, xf2⟩ := hs6.bx.cells; obtain ⟨rr0, rr1, rr2, rr3, rr4, -⟩ := hs6.br.cells; obtain ⟨yy0, yy1, yy2, yg0, yg1, yg2⟩ := hs6.ry.cells; obtain ⟨ee0, ee1, ee2, ee3, ee4, ef0, ef1, ef2, ef3, ef4⟩ := hs6.be.cells)
          | fail)
        refine bodyPost_ret (v := .tuple #[.agg #[.slice (some ⟨b, off, none⟩) n c, .slice B p d, .slice E q f], .int .i64 8]) (by simp [results, Tryd.results51, go_sem, yy0, yy1, yy2, yg0, yg1, yg2]) rfl ?_
        rw [hh.out]
        exact GmPost2.fin (x := w.heap.size) (y := w.heap.size + 1 + 1) (w9 := w6) (D' := D) 8 (by (repeat (first | (with_reducible exact Onl.refl _ _ _) | (with_reducible exact Onl.drewL _ _ _) | (with_reducible refine Onl.set ?_ (by simp) _) | with_reducible refine Onl.drew ?_))) hs6.bel (Nat.le_refl _) (by omega) hg6 (fun b hb => by have := hD b hb; exact ⟨by omega, by omega, .inl hb⟩)
      · have hyes := hide (show nearE g.1[k] g.1[i] by simpa using e1)
        cases e2 : decide (g.1[k].2.2.2.2 < r.2.2.2.2)
        · have hh := hide (show actG g k r = (((g.1.set i (entG g.1[i] r.2.2.2.2)).set k (g.1[k].1, g.1[k].2.1, g.1[k].2.2.1, g.1[k].2.2.2.1, g.1[k].2.2.2.2 - r.2.2.2.2), g.2.1, g.2.2), 0) by
            rw [hact.out, if_neg (fun h => h.elim hikh.out (fun h => h hyes.out)), if_neg (by simpa using e2)]
            rfl)
          go_enter Tryd.func51, Tryd.ntmps51
          go_wp2_with fail
          generalize ((((w.alloc (.cells #[.slice (some ⟨b, off, none⟩) n c, .slice B p d, .slice E q f] 35)).alloc (.cells #[.int .i64 r.1, .int .i64 r.2.1, .int .i64 r.2.2.1, .int .i64 r.2.2.2.1, .int .i64 r.2.2.2.2] 37)).alloc (.cells #[.slice none 0 0, .slice none 0 0, .slice none 0 0] 35)).alloc (.cells #[.int .i64 g.1[k].1, .int .i64 g.1[k].2.1, .int .i64 g.1[k].2.2.1, .int .i64 g.1[k].2.2.2.1, .int .i64 g.1[k].2.2.2.2] 82)) = w4 at *
          have hsd := hide (hg4.en.rdn encEnt_len hD)
          refine (l2At_some (some ⟨b, off, none⟩) n c B p d E q f 0 w.heap.size g.1 r.2.2.2.1 _ hsd.out (by show w.heap.size ≤ w4.heap.size; omega) i hfi).mono ?_
          rintro e w5 ⟨rfl, hb5⟩
          have hs5 := hs4.below hb5 hz4
          have hg5 := hg4.below hb5 (fun b hb => by have := hD b hb; omega)
          have hz5 := hs5.sz
          clear xx0 xx1 xx2 xf0 xf1 xf2 rr0 rr1 rr2 rr3 rr4 yy0 yy1 yy2 yg0 yg1 yg2 ee0 ee1 ee2 ee3 ee4 ef0 ef1 ef2 ef3 ef4 hs4 hg4
          obtain ⟨xx0, xx1, xx2, xf0, xf1, xf2⟩ := hs5.bx.cells
          obtain ⟨rr0, rr1, rr2, rr3, rr4, -⟩ := hs5.br.cells
          obtain ⟨yy0, yy1, yy2, yg0, yg1, yg2⟩ := hs5.ry.cells
          obtain ⟨ee0, ee1, ee2, ee3, ee4, ef0, ef1, ef2, ef3, ef4⟩ := hs5.be.cells
          obtain ⟨b0, b1, b2, b3, b4⟩ := hg5.en.ent hi
          go_wp2
          refine wp_region_T (fun _ => True) [] [] [] [0, 1, 2, 3, 4, 5, 6, 7, 8, 9, 10, 11, 12, 13, 14, 15, 16] (by kernel_rfl) (by kernel_rfl) (by kernel_rfl) trivial ?_; simp only [pickL, List.getElem?_cons_succ, List.getElem?_cons_zero]
          go_wp2_with (first
            | ((with_reducible refine wpT_q0 ?_ ?_ ?_ ?_); (focus rfl); (focus rfl); (focus rfl); intro K hK) | ((with_reducible refine wpT_x0 ?_ ?_ ?_); (focus rfl); (focus rfl); intro K hK) | ((with_reducible refine wpT_noL ?_ ?_); (focus (first | exact wanted_no _ _ _ rfl rfl rfl | exact wanted_un _ _ _ rfl rfl rfl)); simp only [setO, List.set_cons_succ, List.set_cons_zero]) | ((with_reducible refine wpT_q1 ?_ ?_ ?_ ?_); (focus exact wanted_yes _ _ _ rfl rfl rfl); (focus rfl); (focus rfl); intro K hK) | ((with_reducible refine wpT_x1 ?_ ?_ ?_); (focus exact wanted_yes _ _ _ rfl rfl rfl); (focus rfl); intro K hK) | ((with_reducible refine wpT_nil ?_); try dsimp only)
            | (go_at_call 80; refine (l2Near_c g.1[k] g.1[i] _ ⟨hek.2.1, hek.2.2.1⟩ ⟨hei.2.1, hei.2.2.1⟩).mono ?_; rintro e w6 ⟨rfl, hb6⟩; have hb56 : Below w5.heap.size w5 w6 := (Below.drew (Below.refl _ _)).trans hb6; have hs6 := hs5.below hb56 hz5; have hg6 := hg5.below hb56 (fun b hb => by have := hD b hb; omega); have hz6 := hs6.sz; clear xx0 xx1 xx2 xf0 xf1 xf2 rr0 rr1 rr2 rr3 rr4 yy0 yy1 yy2 yg0 yg1 yg2 ee0 ee1 ee2 ee3 ee4 ef0 ef1 ef2 ef3 ef4; obtain ⟨xx0, xx1, xx2, xf0, xf1, xf2⟩ := hs6.bx.cells; obtain ⟨rr0, rr1, rr2, rr3, rr4, -⟩ := hs6.br.cells; obtain ⟨yy0, yy1, yy2, yg0, yg1, yg2⟩ := hs6.ry.cells; obtain ⟨ee0, ee1, ee2, ee3, ee4, ef0, ef1, ef2, ef3, ef4⟩ := hs6.be.cells; have hlx6 := hs6.bx.lt; have hle6 := hs6.be.lt; have hs7 := hs6.setE (hs6.be.set4 (g.1[k].2.2.2.2 - r.2.2.2.2)); (try dsimp only at hs7); have hg7 := hg6.keep (w' := (w6.setCell ⟨w.heap.size + 1 + 1 + 1, 4, none⟩ (.int .i64 (g.1[k].2.2.2.2 - r.2.2.2.2)))) (fun b hb => ne_set _ (by have := hD b hb; omega)); have hz7 := hide (show ((w6.setCell ⟨w.heap.size + 1 + 1 + 1, 4, none⟩ (.int .i64 (g.1[k].2.2.2.2 - r.2.2.2.2)))).heap.size = w6.heap.size by simp); have hown7 : Own encEnt 5 82 (((w6.setCell ⟨w.heap.size + 1 + 1 + 1, 4, none⟩ (.int .i64 (g.1[k].2.2.2.2 - r.2.2.2.2)))).alloc (.cells #[] 82)) w6.heap.size (.slice (some ⟨w6.heap.size, 0, none⟩) 0 0) [] := (by have h := own_empty encEnt 5 82 ((w6.setCell ⟨w.heap.size + 1 + 1 + 1, 4, none⟩ (.int .i64 (g.1[k].2.2.2.2 - r.2.2.2.2)))); rw [hz7.out] at h; exact h); have hA7 := (Below.refl ((w6.setCell ⟨w.heap.size + 1 + 1 + 1, 4, none⟩ (.int .i64 (g.1[k].2.2.2.2 - r.2.2.2.2)))).heap.size ((w6.setCell ⟨w.heap.size + 1 + 1 + 1, 4, none⟩ (.int .i64 (g.1[k].2.2.2.2 - r.2.2.2.2))))).alloc (Nat.le_refl _) (.cells #[] 82); have hsl7 : Hid (Sl encEnt 5 (((w6.setCell ⟨w.heap.size + 1 + 1 + 1, 4, none⟩ (.int .i64 (g.1[k].2.2.2.2 - r.2.2.2.2)))).alloc (.cells #[] 82)) 0 w.heap.size (some ⟨b, off, none⟩) g.1) := hide ((hg7.en.sl hD).below hA7 (by have := hz7.out; omega)))
            | (at_builtin; generalize (w6.setCell ⟨w.heap.size + 1 + 1 + 1, 4, none⟩ (.int .i64 (g.1[k].2.2.2.2 - r.2.2.2.2))) = w7 at *; refine wpList_app encEnt_len (by omega) encEnt_one rfl _ _ 33 rfl 82 _ 40 Tryd.underlying33 infoEnt rfl w6.heap.size _ [] rfl hown7 0 w.heap.size _ g.1 _ _ rfl hn'.out hsl7.out (by have h1 := hn4.out; have h2 := hn'.out; simp only [List.length_nil, maxLen]; omega) (by have := hz7.out; have := hA7.size; omega) ?_)
            | fail)
          intro va wa hoa hgra hba
          try rw [List.nil_append] at hoa
          obtain ⟨g5, c5, rfl, hg51, hg52, hc51, hc52⟩ := hoa.at0 (by omega)
          rw [← hn'.out] at hoa hc51 ⊢
          unfold maxLen at hc52
          have hz7' := hz7.out
          have hb7a := hA7.trans (hba.mono (by omega))
          have hsa := hs7.below hb7a (by omega)
          have hga := hg7.below hb7a (fun b hb => by have := hD b hb; omega)
          have hz7a := hb7a.size
          clear xx0 xx1 xx2 xf0 xf1 xf2 rr0 rr1 rr2 rr3 rr4 yy0 yy1 yy2 yg0 yg1 yg2 ee0 ee1 ee2 ee3 ee4 ef0 ef1 ef2 ef3 ef4 hown7 hA7 hsl7 hgra hba hs7 hg7 hs6 hg6 hs5 hg5 b0 b1 b2 b3 b4 hb6 hb56 hb5
          obtain ⟨xx0, xx1, xx2, xf0, xf1, xf2⟩ := hsa.bx.cells
          have hlxa := hsa.bx.lt
          go_wp2
          have hS1 : ∀ b, b ≠ w.heap.size → (wa.setCell ⟨w.heap.size, 0, none⟩ (.slice (some ⟨g5, 0, none⟩) n c5)).heap[b]? = wa.heap[b]? := fun b h => ne_set _ h
          have hsb := hsa.set0 (.slice (some ⟨g5, 0, none⟩) n c5)
          have hgb := hga.keep (w' := wa.setCell ⟨w.heap.size, 0, none⟩ (.slice (some ⟨g5, 0, none⟩) n c5)) (fun b hb => hS1 b (by have := hD b hb; omega))
          have hob := hoa.keep (w' := wa.setCell ⟨w.heap.size, 0, none⟩ (.slice (some ⟨g5, 0, none⟩) n c5)) (fun b hb => hS1 b (by simp [Value.ownBlock] at hb; omega))
          have hzb := hide (show (wa.setCell ⟨w.heap.size, 0, none⟩ (.slice (some ⟨g5, 0, none⟩) n c5)).heap.size = wa.heap.size by simp)
          clear xx0 xx1 xx2 xf0 xf1 xf2 hsa hga hoa hS1
          generalize wa.setCell ⟨w.heap.size, 0, none⟩ (.slice (some ⟨g5, 0, none⟩) n c5) = wb at *
          obtain ⟨xx0, xx1, xx2, xf0, xf1, xf2⟩ := hsb.bx.cells
          obtain ⟨rr0, rr1, rr2, rr3, rr4, -⟩ := hsb.br.cells
          obtain ⟨yy0, yy1, yy2, yg0, yg1, yg2⟩ := hsb.ry.cells
          obtain ⟨ee0, ee1, ee2, ee3, ee4, ef0, ef1, ef2, ef3, ef4⟩ := hsb.be.cells
          have hgbw : g5 < wb.heap.size := by rw [hzb.out]; omega
          have hlxb := hsb.bx.lt
          have hleb := hsb.be.lt
          obtain ⟨b0, b1, b2, b3, b4⟩ := (hob.slAt encEnt_len).2.2.getEnt hi
          simp only [Nat.zero_add] at b0 b1 b2 b3 b4
          have hqf := hob.frozen (i * 5 + 4)
          have hni1 : ¬ w.heap.size = g5 := by omega
          have hni2 : ¬ g5 = w.heap.size := by omega
          have hni3 : ¬ w.heap.size + 1 + 1 + 1 = g5 := by omega
          have hni4 : ¬ g5 = w.heap.size + 1 + 1 + 1 := by omega
          have hs5 := hsb.other (a := ⟨g5, i * 5 + 4, none⟩) (by show _ ≤ g5; omega) (.int .i64 (g.1[i].2.2.2.2 + r.2.2.2.2))
          have ho1 := hob.put1 encEnt_len hi (entG g.1[i] r.2.2.2.2) 4 (by omega) (.int .i64 (g.1[i].2.2.2.2 + r.2.2.2.2)) rfl
          have hgc := hgb.keep (w' := wb.setCell ⟨g5, i * 5 + 4, none⟩ (.int .i64 (g.1[i].2.2.2.2 + r.2.2.2.2))) (fun b hb => ne_set _ (by have := hD b hb; omega))
          have hg5 : GmD (wb.setCell ⟨g5, i * 5 + 4, none⟩ (.int .i64 (g.1[i].2.2.2.2 + r.2.2.2.2))) (fun b => D b ∨ b = g5) (some ⟨g5, 0, none⟩) n c5 B p d E q f (g.1.set i (entG g.1[i] r.2.2.2.2), g.2.1, g.2.2) := ⟨ho1.rdG encEnt_len (.inr rfl), hgc.fl.mono (fun b hb => .inl hb), hgc.la.mono (fun b hb => .inl hb), .inr ⟨g5, 0, rfl⟩⟩
          have hD5 : ∀ b, (D b ∨ b = g5) → b < (wb.setCell ⟨g5, i * 5 + 4, none⟩ (.int .i64 (g.1[i].2.2.2.2 + r.2.2.2.2))).heap.size := fun b hb => by
            have : (wb.setCell ⟨g5, i * 5 + 4, none⟩ (.int .i64 (g.1[i].2.2.2.2 + r.2.2.2.2))).heap.size = wb.heap.size := by simp
            rw [this]
            have := hzb.out
            rcases hb with hb | hb
            · have := hD b hb; omega
            · omega
          have hsp5 : ∀ b, (D b ∨ b = g5) → D b ∨ w.heap.size + 4 ≤ b := fun b hb => by
            rcases hb with hb | hb
            · exact .inl hb
            · exact .inr (by omega)
          clear ho1 hgc hgb hob hsb
          have hlen5 := hide (show n = (g.1.set i (entG g.1[i] r.2.2.2.2)).length by simp; exact hn'.out)
          have hzz := hide (show (wb.setCell ⟨g5, i * 5 + 4, none⟩ (.int .i64 (g.1[i].2.2.2.2 + r.2.2.2.2))).heap.size = wb.heap.size by simp)
          have hown5 : Own encEnt 5 82 ((wb.setCell ⟨g5, i * 5 + 4, none⟩ (.int .i64 (g.1[i].2.2.2.2 + r.2.2.2.2))).alloc (.cells #[] 82)).drew wb.heap.size (.slice (some ⟨wb.heap.size, 0, none⟩) 0 0) [] := by
            have h := own_empty encEnt 5 82 (wb.setCell ⟨g5, i * 5 + 4, none⟩ (.int .i64 (g.1[i].2.2.2.2 + r.2.2.2.2)))
            rw [hzz.out] at h
            exact h
          have hA5 := ((Below.refl (wb.setCell ⟨g5, i * 5 + 4, none⟩ (.int .i64 (g.1[i].2.2.2.2 + r.2.2.2.2))).heap.size (wb.setCell ⟨g5, i * 5 + 4, none⟩ (.int .i64 (g.1[i].2.2.2.2 + r.2.2.2.2)))).alloc (Nat.le_refl _) (.cells #[] 82)).drew
          have hsl5 : Hid (Sl encEnt 5 (((wb.setCell ⟨g5, i * 5 + 4, none⟩ (.int .i64 (g.1[i].2.2.2.2 + r.2.2.2.2))).alloc (.cells #[] 82)).drew) 0 (wb.setCell ⟨g5, i * 5 + 4, none⟩ (.int .i64 (g.1[i].2.2.2.2 + r.2.2.2.2))).heap.size (some ⟨g5, 0, none⟩) (g.1.set i (entG g.1[i] r.2.2.2.2))) := hide ((hg5.en.sl hD5).below hA5 (Nat.le_refl _))
          have hz5 := hs5.sz
          have hlx5 := hs5.bx.lt
          have hlr5 := hs5.br.lt
          have hly5 := hs5.ry.lt
          have hle5 := hs5.be.lt
          have hd5' := hide hD5
          have hsp5' := hide hsp5
          clear hD5 hsp5
          refine wp_region_T (fun _ => True) [] [] [] [0, 1, 2, 3, 4, 5, 6, 7, 8, 9, 10, 11, 12, 13, 14] (by kernel_rfl) (by kernel_rfl) (by kernel_rfl) trivial ?_; simp only [pickL, List.getElem?_cons_succ, List.getElem?_cons_zero]
          go_wp2_with (first
            | ((with_reducible refine wpT_q0 ?_ ?_ ?_ ?_); (focus rfl); (focus rfl); (focus rfl); intro K hK) | ((with_reducible refine wpT_x0 ?_ ?_ ?_); (focus rfl); (focus rfl); intro K hK) | ((with_reducible refine wpT_noL ?_ ?_); (focus (first | exact wanted_no _ _ _ rfl rfl rfl | exact wanted_un _ _ _ rfl rfl rfl)); simp only [setO, List.set_cons_succ, List.set_cons_zero]) | ((with_reducible refine wpT_q1 ?_ ?_ ?_ ?_); (focus exact wanted_yes _ _ _ rfl rfl rfl); (focus rfl); (focus rfl); intro K hK) | ((with_reducible refine wpT_x1 ?_ ?_ ?_); (focus exact wanted_yes _ _ _ rfl rfl rfl); (focus rfl); intro K hK) | ((with_reducible refine wpT_nil ?_); try dsimp only)
            | (at_builtin; generalize wb.setCell ⟨g5, i * 5 + 4, none⟩ (.int .i64 (g.1[i].2.2.2.2 + r.2.2.2.2)) = w5 at *; refine wpList_app encEnt_len (by omega) encEnt_one rfl _ _ 33 rfl 82 _ 40 Tryd.underlying33 infoEnt rfl wb.heap.size _ [] rfl hown5 0 w5.heap.size _ (g.1.set i (entG g.1[i] r.2.2.2.2)) _ _ rfl hlen5.out hsl5.out (by have h1 := hn4.out; have h2 := hlen5.out; simp only [List.length_nil, maxLen]; omega) (by have h1 := hzz.out; have h2 := hA5.size; omega) ?_)
            | fail)
          intro v6 w6 ho6 hgr6 hb6
          try rw [List.nil_append] at ho6
          obtain ⟨g6, c6, rfl, hg61, hg62, hc61, hc62⟩ := ho6.at0 (by have := hlen5.out; omega)
          rw [← hlen5.out] at ho6 hc61 ⊢
          unfold maxLen at hc62
          have hb56 := hA5.trans (hb6.mono (by have := hzz.out; omega))
          have hs6 := hs5.below hb56 hz5
          have hg6 := hg5.below hb56 hd5'.out
          have hz56 := hb56.size
          have hzz' := hzz.out
          clear xx0 xx1 xx2 xf0 xf1 xf2 rr0 rr1 rr2 rr3 rr4 yy0 yy1 yy2 yg0 yg1 yg2 ee0 ee1 ee2 ee3 ee4 ef0 ef1 ef2 ef3 ef4 hown5 hA5 hsl5 hgr6 hb6
          obtain ⟨xx0, xx1, xx2, xf0, xf1, xf2⟩ := hs6.bx.cells
          obtain ⟨yy0, yy1, yy2, yg0, yg1, yg2⟩ := hs6.ry.cells
          obtain ⟨ee0, ee1, ee2, ee3, ee4, ef0, ef1, ef2, ef3, ef4⟩ := hs6.be.cells
          try dsimp only at ee0 ee1 ee2 ee3 ee4
          have hk6 : k < (g.1.set i (entG g.1[i] r.2.2.2.2)).length := by have := hlen5.out; omega
          obtain ⟨d0, d1, d2, d3, d4⟩ := (ho6.slAt encEnt_len).2.2.getEnt hk6
          simp only [Nat.zero_add] at d0 d1 d2 d3 d4
          have df0 := ho6.frozen (k * 5)
          have df1 := ho6.frozen (k * 5 + 1)
          have df2 := ho6.frozen (k * 5 + 2)
          have df3 := ho6.frozen (k * 5 + 3)
          have df4 := ho6.frozen (k * 5 + 4)
          have hne1 : ¬ w.heap.size = g6 := by omega
          have hne2 : ¬ g6 = w.heap.size := by omega
          have hne3 : ¬ w.heap.size + 1 + 1 = g6 := by omega
          have hne4 : ¬ g6 = w.heap.size + 1 + 1 := by omega
          have hne5 : ¬ w.heap.size + 1 + 1 + 1 = g6 := by omega
          have hne6 : ¬ g6 = w.heap.size + 1 + 1 + 1 := by omega
          have hlx6 := hs6.bx.lt
          have hly6 := hs6.ry.lt
          have hle6 := hs6.be.lt
          have hfin : Hid (GmD (((((((w6.setCell ⟨w.heap.size, 0, none⟩ (.slice (some ⟨g6, 0, none⟩) n c6)).setCell ⟨g6, k * 5, none⟩ (.int .i64 (g.1[k].1, g.1[k].2.1, g.1[k].2.2.1, g.1[k].2.2.2.1, g.1[k].2.2.2.2 - r.2.2.2.2).1)).setCell ⟨g6, k * 5 + 1, none⟩ (.int .i64 (g.1[k].1, g.1[k].2.1, g.1[k].2.2.1, g.1[k].2.2.2.1, g.1[k].2.2.2.2 - r.2.2.2.2).2.1)).setCell ⟨g6, k * 5 + 2, none⟩ (.int .i64 (g.1[k].1, g.1[k].2.1, g.1[k].2.2.1, g.1[k].2.2.2.1, g.1[k].2.2.2.2 - r.2.2.2.2).2.2.1)).setCell ⟨g6, k * 5 + 3, none⟩ (.int .i64 (g.1[k].1, g.1[k].2.1, g.1[k].2.2.1, g.1[k].2.2.2.1, g.1[k].2.2.2.2 - r.2.2.2.2).2.2.2.1)).setCell ⟨g6, k * 5 + 4, none⟩ (.int .i64 (g.1[k].1, g.1[k].2.1, g.1[k].2.2.1, g.1[k].2.2.2.1, g.1[k].2.2.2.2 - r.2.2.2.2).2.2.2.2))) (fun b => (fun b => D b ∨ b = g5) b ∨ b = g6) (some ⟨g6, 0, none⟩) n c6 B p d E q f ((g.1.set i (entG g.1[i] r.2.2.2.2)).set k (g.1[k].1, g.1[k].2.1, g.1[k].2.2.1, g.1[k].2.2.2.1, g.1[k].2.2.2.2 - r.2.2.2.2), g.2.1, g.2.2) ∧ Below w.heap.size w (((((((w6.setCell ⟨w.heap.size, 0, none⟩ (.slice (some ⟨g6, 0, none⟩) n c6)).setCell ⟨g6, k * 5, none⟩ (.int .i64 (g.1[k].1, g.1[k].2.1, g.1[k].2.2.1, g.1[k].2.2.2.1, g.1[k].2.2.2.2 - r.2.2.2.2).1)).setCell ⟨g6, k * 5 + 1, none⟩ (.int .i64 (g.1[k].1, g.1[k].2.1, g.1[k].2.2.1, g.1[k].2.2.2.1, g.1[k].2.2.2.2 - r.2.2.2.2).2.1)).setCell ⟨g6, k * 5 + 2, none⟩ (.int .i64 (g.1[k].1, g.1[k].2.1, g.1[k].2.2.1, g.1[k].2.2.2.1, g.1[k].2.2.2.2 - r.2.2.2.2).2.2.1)).setCell ⟨g6, k * 5 + 3, none⟩ (.int .i64 (g.1[k].1, g.1[k].2.1, g.1[k].2.2.1, g.1[k].2.2.2.1, g.1[k].2.2.2.2 - r.2.2.2.2).2.2.2.1)).setCell ⟨g6, k * 5 + 4, none⟩ (.int .i64 (g.1[k].1, g.1[k].2.1, g.1[k].2.2.1, g.1[k].2.2.2.1, g.1[k].2.2.2.2 - r.2.2.2.2).2.2.2.2))) ∧ (((((((w6.setCell ⟨w.heap.size, 0, none⟩ (.slice (some ⟨g6, 0, none⟩) n c6)).setCell ⟨g6, k * 5, none⟩ (.int .i64 (g.1[k].1, g.1[k].2.1, g.1[k].2.2.1, g.1[k].2.2.2.1, g.1[k].2.2.2.2 - r.2.2.2.2).1)).setCell ⟨g6, k * 5 + 1, none⟩ (.int .i64 (g.1[k].1, g.1[k].2.1, g.1[k].2.2.1, g.1[k].2.2.2.1, g.1[k].2.2.2.2 - r.2.2.2.2).2.1)).setCell ⟨g6, k * 5 + 2, none⟩ (.int .i64 (g.1[k].1, g.1[k].2.1, g.1[k].2.2.1, g.1[k].2.2.2.1, g.1[k].2.2.2.2 - r.2.2.2.2).2.2.1)).setCell ⟨g6, k * 5 + 3, none⟩ (.int .i64 (g.1[k].1, g.1[k].2.1, g.1[k].2.2.1, g.1[k].2.2.2.1, g.1[k].2.2.2.2 - r.2.2.2.2).2.2.2.1)).setCell ⟨g6, k * 5 + 4, none⟩ (.int .i64 (g.1[k].1, g.1[k].2.1, g.1[k].2.2.1, g.1[k].2.2.2.1, g.1[k].2.2.2.2 - r.2.2.2.2).2.2.2.2))).heap.size = w6.heap.size) := by
            have hS1 : ∀ b, b ≠ w.heap.size → (w6.setCell ⟨w.heap.size, 0, none⟩ (.slice (some ⟨g6, 0, none⟩) n c6)).heap[b]? = w6.heap[b]? := fun b h => Below.heap_setCell w6 ⟨w.heap.size, 0, none⟩ _ b h
            have hS2 : ∀ b, b ≠ w.heap.size → b ≠ g6 → (((((((w6.setCell ⟨w.heap.size, 0, none⟩ (.slice (some ⟨g6, 0, none⟩) n c6)).setCell ⟨g6, k * 5, none⟩ (.int .i64 (g.1[k].1, g.1[k].2.1, g.1[k].2.2.1, g.1[k].2.2.2.1, g.1[k].2.2.2.2 - r.2.2.2.2).1)).setCell ⟨g6, k * 5 + 1, none⟩ (.int .i64 (g.1[k].1, g.1[k].2.1, g.1[k].2.2.1, g.1[k].2.2.2.1, g.1[k].2.2.2.2 - r.2.2.2.2).2.1)).setCell ⟨g6, k * 5 + 2, none⟩ (.int .i64 (g.1[k].1, g.1[k].2.1, g.1[k].2.2.1, g.1[k].2.2.2.1, g.1[k].2.2.2.2 - r.2.2.2.2).2.2.1)).setCell ⟨g6, k * 5 + 3, none⟩ (.int .i64 (g.1[k].1, g.1[k].2.1, g.1[k].2.2.1, g.1[k].2.2.2.1, g.1[k].2.2.2.2 - r.2.2.2.2).2.2.2.1)).setCell ⟨g6, k * 5 + 4, none⟩ (.int .i64 (g.1[k].1, g.1[k].2.1, g.1[k].2.2.1, g.1[k].2.2.2.1, g.1[k].2.2.2.2 - r.2.2.2.2).2.2.2.2))).heap[b]? = w6.heap[b]? := fun b h h2 => (heap_putCells_other (encEnt (g.1[k].1, g.1[k].2.1, g.1[k].2.2.1, g.1[k].2.2.2.1, g.1[k].2.2.2.2 - r.2.2.2.2)) (w6.setCell ⟨w.heap.size, 0, none⟩ (.slice (some ⟨g6, 0, none⟩) n c6)) g6 (k * 5) b h2).trans (hS1 b h)
            have h1 := ho6.keep (w' := w6.setCell ⟨w.heap.size, 0, none⟩ (.slice (some ⟨g6, 0, none⟩) n c6)) (fun b hb => hS1 b (by simp [Value.ownBlock] at hb; omega))
            have h2 := h1.put_ encEnt_len hkn (g.1[k].1, g.1[k].2.1, g.1[k].2.2.1, g.1[k].2.2.2.1, g.1[k].2.2.2.2 - r.2.2.2.2)
            have h3 : Own encEnt 5 82 (((((((w6.setCell ⟨w.heap.size, 0, none⟩ (.slice (some ⟨g6, 0, none⟩) n c6)).setCell ⟨g6, k * 5, none⟩ (.int .i64 (g.1[k].1, g.1[k].2.1, g.1[k].2.2.1, g.1[k].2.2.2.1, g.1[k].2.2.2.2 - r.2.2.2.2).1)).setCell ⟨g6, k * 5 + 1, none⟩ (.int .i64 (g.1[k].1, g.1[k].2.1, g.1[k].2.2.1, g.1[k].2.2.2.1, g.1[k].2.2.2.2 - r.2.2.2.2).2.1)).setCell ⟨g6, k * 5 + 2, none⟩ (.int .i64 (g.1[k].1, g.1[k].2.1, g.1[k].2.2.1, g.1[k].2.2.2.1, g.1[k].2.2.2.2 - r.2.2.2.2).2.2.1)).setCell ⟨g6, k * 5 + 3, none⟩ (.int .i64 (g.1[k].1, g.1[k].2.1, g.1[k].2.2.1, g.1[k].2.2.2.1, g.1[k].2.2.2.2 - r.2.2.2.2).2.2.2.1)).setCell ⟨g6, k * 5 + 4, none⟩ (.int .i64 (g.1[k].1, g.1[k].2.1, g.1[k].2.2.1, g.1[k].2.2.2.1, g.1[k].2.2.2.2 - r.2.2.2.2).2.2.2.2))) wb.heap.size (.slice (some ⟨g6, 0, none⟩) n c6) ((g.1.set i (entG g.1[i] r.2.2.2.2)).set k (g.1[k].1, g.1[k].2.1, g.1[k].2.2.1, g.1[k].2.2.2.1, g.1[k].2.2.2.2 - r.2.2.2.2)) := h2
            have hd := hd5'.out
            have hsp := hsp5'.out
            have hno : ∀ b, (fun b => D b ∨ b = g5) b → b ≠ w.heap.size ∧ b ≠ g6 := fun b hb => by
              have e1 := hd b hb
              rcases hsp b hb with e2 | e2
              · have e3 := hD b e2; exact ⟨by omega, by omega⟩
              · exact ⟨by omega, by omega⟩
            refine ⟨⟨h3.rdG encEnt_len (.inr rfl), (hg6.fl.keep (fun b hb => hS2 b (hno b hb).1 (hno b hb).2)).mono (fun b hb => .inl hb), (hg6.la.keep (fun b hb => hS2 b (hno b hb).1 (hno b hb).2)).mono (fun b hb => .inl hb), .inr ⟨g6, 0, rfl⟩⟩, ?_, ?_⟩
            · exact below_putCells (encEnt (g.1[k].1, g.1[k].2.1, g.1[k].2.2.1, g.1[k].2.2.2.1, g.1[k].2.2.2.2 - r.2.2.2.2)) (hs6.bel.setCell (Nat.le_refl _) _) (by omega)
            · exact (size_putCells (encEnt (g.1[k].1, g.1[k].2.1, g.1[k].2.2.1, g.1[k].2.2.2.1, g.1[k].2.2.2.2 - r.2.2.2.2)) _ _ _).trans (by simp)
          clear ho6 hs5 hg5 hs6 hg6
          go_wp2
          refine bodyPost_ret (v := .tuple #[.agg #[.slice (some ⟨g6, 0, none⟩) n c6, .slice B p d, .slice E q f], .int .i64 0]) (by simp [results, Tryd.results51, go_sem, yy0, yy1, yy2, yg0, yg1, yg2, hne1, hne2, hne3, hne4]) rfl ?_
          rw [hh.out]
          refine GmPost2.fin (x := w.heap.size) (y := w.heap.size + 1 + 1) (w9 := ((((((w6.setCell ⟨w.heap.size, 0, none⟩ (.slice (some ⟨g6, 0, none⟩) n c6)).setCell ⟨g6, k * 5, none⟩ (.int .i64 (g.1[k].1, g.1[k].2.1, g.1[k].2.2.1, g.1[k].2.2.2.1, g.1[k].2.2.2.2 - r.2.2.2.2).1)).setCell ⟨g6, k * 5 + 1, none⟩ (.int .i64 (g.1[k].1, g.1[k].2.1, g.1[k].2.2.1, g.1[k].2.2.2.1, g.1[k].2.2.2.2 - r.2.2.2.2).2.1)).setCell ⟨g6, k * 5 + 2, none⟩ (.int .i64 (g.1[k].1, g.1[k].2.1, g.1[k].2.2.1, g.1[k].2.2.2.1, g.1[k].2.2.2.2 - r.2.2.2.2).2.2.1)).setCell ⟨g6, k * 5 + 3, none⟩ (.int .i64 (g.1[k].1, g.1[k].2.1, g.1[k].2.2.1, g.1[k].2.2.2.1, g.1[k].2.2.2.2 - r.2.2.2.2).2.2.2.1)).setCell ⟨g6, k * 5 + 4, none⟩ (.int .i64 (g.1[k].1, g.1[k].2.1, g.1[k].2.2.1, g.1[k].2.2.2.1, g.1[k].2.2.2.2 - r.2.2.2.2).2.2.2.2))) (D' := fun b => (fun b => D b ∨ b = g5) b ∨ b = g6) 0 (by (repeat (first | (with_reducible exact Onl.refl _ _ _) | (with_reducible exact Onl.drewL _ _ _) | (with_reducible refine Onl.set ?_ (by simp) _) | with_reducible refine Onl.drew ?_))) hfin.out.2.1 (Nat.le_refl _) (by omega) hfin.out.1 (fun b hb => ?_)
          rw [hfin.out.2.2]
          rcases hb with hb | hb
          · have e1 := hd5'.out b hb
            rcases hsp5'.out b hb with e2 | e2
            · have e3 := hD b e2; exact ⟨by omega, by omega, .inl e2⟩
            · exact ⟨by omega, by omega, .inr ⟨by omega, by omega⟩⟩
          · exact ⟨by omega, by omega, .inr ⟨by omega, by omega⟩⟩
        · have hh := hide (show actG g k r = (g, 7) by
            rw [hact.out, if_neg (fun h => h.elim hikh.out (fun h => h hyes.out)), if_pos (by simpa using e2)])
          go_enter Tryd.func51, Tryd.ntmps51
          go_wp2_with fail
          generalize ((((w.alloc (.cells #[.slice (some ⟨b, off, none⟩) n c, .slice B p d, .slice E q f] 35)).alloc (.cells #[.int .i64 r.1, .int .i64 r.2.1, .int .i64 r.2.2.1, .int .i64 r.2.2.2.1, .int .i64 r.2.2.2.2] 37)).alloc (.cells #[.slice none 0 0, .slice none 0 0, .slice none 0 0] 35)).alloc (.cells #[.int .i64 g.1[k].1, .int .i64 g.1[k].2.1, .int .i64 g.1[k].2.2.1, .int .i64 g.1[k].2.2.2.1, .int .i64 g.1[k].2.2.2.2] 82)) = w4 at *
          have hsd := hide (hg4.en.rdn encEnt_len hD)
          refine (l2At_some (some ⟨b, off, none⟩) n c B p d E q f 0 w.heap.size g.1 r.2.2.2.1 _ hsd.out (by show w.heap.size ≤ w4.heap.size; omega) i hfi).mono ?_
          rintro e w5 ⟨rfl, hb5⟩
          have hs5 := hs4.below hb5 hz4
          have hg5 := hg4.below hb5 (fun b hb => by have := hD b hb; omega)
          have hz5 := hs5.sz
          clear xx0 xx1 xx2 xf0 xf1 xf2 rr0 rr1 rr2 rr3 rr4 yy0 yy1 yy2 yg0 yg1 yg2 ee0 ee1 ee2 ee3 ee4 ef0 ef1 ef2 ef3 ef4 hs4 hg4
          obtain ⟨xx0, xx1, xx2, xf0, xf1, xf2⟩ := hs5.bx.cells
          obtain ⟨rr0, rr1, rr2, rr3, rr4, -⟩ := hs5.br.cells
          obtain ⟨yy0, yy1, yy2, yg0, yg1, yg2⟩ := hs5.ry.cells
          obtain ⟨ee0, ee1, ee2, ee3, ee4, ef0, ef1, ef2, ef3, ef4⟩ := hs5.be.cells
          obtain ⟨b0, b1, b2, b3, b4⟩ := hg5.en.ent hi
          go_wp2
          refine wp_region_T (fun _ => True) [] [] [] [0, 1, 2, 3, 4, 5, 6, 7, 8, 9, 10, 11, 12, 13, 14, 15, 16] (by kernel_rfl) (by kernel_rfl) (by kernel_rfl) trivial ?_; simp only [pickL, List.getElem?_cons_succ, List.getElem?_cons_zero]
          go_wp2_with (first
            | ((with_reducible refine wpT_q0 ?_ ?_ ?_ ?_); (focus rfl); (focus rfl); (focus rfl); intro K hK) | ((with_reducible refine wpT_x0 ?_ ?_ ?_); (focus rfl); (focus rfl); intro K hK) | ((with_reducible refine wpT_noL ?_ ?_); (focus (first | exact wanted_no _ _ _ rfl rfl rfl | exact wanted_un _ _ _ rfl rfl rfl)); simp only [setO, List.set_cons_succ, List.set_cons_zero]) | ((with_reducible refine wpT_q1 ?_ ?_ ?_ ?_); (focus exact wanted_yes _ _ _ rfl rfl rfl); (focus rfl); (focus rfl); intro K hK) | ((with_reducible refine wpT_x1 ?_ ?_ ?_); (focus exact wanted_yes _ _ _ rfl rfl rfl); (focus rfl); intro K hK) | ((with_reducible refine wpT_nil ?_); try dsimp only)
            | (go_at_call 80; refine (l2Near_c g.1[k] g.1[i] _ ⟨hek.2.1, hek.2.2.1⟩ ⟨hei.2.1, hei.2.2.1⟩).mono ?_; rintro e w6 ⟨rfl, hb6⟩; have hb56 : Below w5.heap.size w5 w6 := (Below.drew (Below.refl _ _)).trans hb6; have hs6 := hs5.below hb56 hz5; have hg6 := hg5.below hb56 (fun b hb => by have := hD b hb; omega); have hz6 := hs6.sz; clear xx0 xx1 xx2 xf0 xf1 xf2 rr0 rr1 rr2 rr3 rr4 yy0 yy1 yy2 yg0 yg1 yg2 ee0 ee1 ee2 ee3 ee4 ef0 ef1 ef2 ef3 ef4; obtain ⟨xx0, xx1, xx2, xf0, xf1, xf2⟩ := hs6.bx.cells; obtain ⟨rr0, rr1, rr2, rr3, rr4, -⟩ := hs6.br.cells; obtain ⟨yy0, yy1, yy2, yg0, yg1, yg2⟩ := hs6.ry.cells; obtain ⟨ee0, ee1, ee2, ee3, ee4, ef0, ef1, ef2, ef3, ef4⟩ := hs6.be.cells)
            | fail)
          refine bodyPost_ret (v := .tuple #[.agg #[.slice (some ⟨b, off, none⟩) n c, .slice B p d, .slice E q f], .int .i64 7]) (by simp [results, Tryd.results51, go_sem, yy0, yy1, yy2, yg0, yg1, yg2]) rfl ?_
          rw [hh.out]
          exact GmPost2.fin (x := w.heap.size) (y := w.heap.size + 1 + 1) (w9 := w6) (D' := D) 7 (by (repeat (first | (with_reducible exact Onl.refl _ _ _) | (with_reducible exact Onl.drewL _ _ _) | (with_reducible refine Onl.set ?_ (by simp) _) | with_reducible refine Onl.drew ?_))) hs6.bel (Nat.le_refl _) (by omega) hg6 (fun b hb => by have := hD b hb; exact ⟨by omega, by omega, .inl hb⟩)

theorem l2Act_c (A : Option Addr) (n c : Nat) (B : Option Addr) (p d : Nat) (E : Option Addr) (q f : Nat) (D : Nat → Prop) (g : GameT) (k : Nat) (r : AskT) (w : World) (hg : GmD w D A n c B p d E q f g) (hD : ∀ b, D b → b < w.heap.size) (hok : okG' g) (hk : k < g.1.length) (hr : okA r) (hop : r.2.2.1 ≠ 1) :
    Calls Tryd.prog 51 #[.agg #[.slice A n c, .slice B p d, .slice E q f], .int .i64 (k : Int), .agg #[.int .i64 r.1, .int .i64 r.2.1, .int .i64 r.2.2.1, .int .i64 r.2.2.2.1, .int .i64 r.2.2.2.2]] w fun e w' => GmPost2 w D (actG g k r) e w' := by
  have h : r.2.2.1 = 2 ∨ r.2.2.1 = 3 ∨ r.2.2.1 = 4 ∨ r.2.2.1 = 5 := by have := hr; unfold okA at this; omega
  rcases h with h | h | h | h
  · exact l2ActMove A n c B p d E q f D g k r w hg hD hok hk hr h
  · exact l2ActTake A n c B p d E q f D g k r w hg hD hok hk hr h
  · exact l2ActHit A n c B p d E q f D g k r w hg hD hok hk hr h
  · exact l2ActGive A n c B p d E q f D g k r w hg hD hok hk hr h
end Go.Proofs.YtajmfonepnkofaaDoor
namespace Go.Proofs.YtajmfonepnkofaaDoor
open Go.RowKit Rg
set_option linter.unusedVariables false
set_option linter.unusedSimpArgs false

/-- The boxes of 'l2Do': the game, the ask, the game returned. -/
structure Gb (w w2 : World) (V0 V1 V2 : Value) (r : AskT) : Prop where
  bx : Bx3 w2 w.heap.size V0 V1 V2 35
  br : Bx5 w2 (w.heap.size + 1) r 37
  ry : Bx3 w2 (w.heap.size + 1 + 1) (.slice none 0 0) (.slice none 0 0) (.slice none 0 0) 35
  sz : w.heap.size + 3 ≤ w2.heap.size
  bel : Below w.heap.size w w2
section
variable {w w2 w3 : World} {V0 V1 V2 : Value} {r : AskT}
theorem Gb.made (w : World) (V0 V1 V2 : Value) (r : AskT) : Gb w (((w.alloc (.cells #[V0, V1, V2] 35)).alloc (.cells #[.int .i64 r.1, .int .i64 r.2.1, .int .i64 r.2.2.1, .int .i64 r.2.2.2.1, .int .i64 r.2.2.2.2] 37)).alloc (.cells #[.slice none 0 0, .slice none 0 0, .slice none 0 0] 35)) V0 V1 V2 r := by
  have h1 := Bx3.made w V0 V1 V2 35
  have h2 := Bx5.made (w.alloc (.cells #[V0, V1, V2] 35)) r 37
  have h3 := Bx3.made ((w.alloc (.cells #[V0, V1, V2] 35)).alloc (.cells #[.int .i64 r.1, .int .i64 r.2.1, .int .i64 r.2.2.1, .int .i64 r.2.2.2.1, .int .i64 r.2.2.2.2] 37)) (.slice none 0 0) (.slice none 0 0) (.slice none 0 0) 35
  have k1 := ((Below.refl _ ((w.alloc (.cells #[V0, V1, V2] 35)))).alloc (Nat.le_refl _) (.cells #[.int .i64 r.1, .int .i64 r.2.1, .int .i64 r.2.2.1, .int .i64 r.2.2.2.1, .int .i64 r.2.2.2.2] 37)).alloc (by simp only [World.size_alloc]; omega) (.cells #[.slice none 0 0, .slice none 0 0, .slice none 0 0] 35)
  have k2 := ((Below.refl _ ((w.alloc (.cells #[V0, V1, V2] 35)).alloc (.cells #[.int .i64 r.1, .int .i64 r.2.1, .int .i64 r.2.2.1, .int .i64 r.2.2.2.1, .int .i64 r.2.2.2.2] 37))).alloc (Nat.le_refl _) (.cells #[.slice none 0 0, .slice none 0 0, .slice none 0 0] 35))
  simp only [World.size_alloc] at h2 h3
  exact ⟨h1.below k1 (by simp only [World.size_alloc]; omega), h2.below k2 (by simp only [World.size_alloc]; omega), h3, by simp only [World.size_alloc]; omega, (((Below.refl w.heap.size w).alloc (Nat.le_refl _) _).alloc (by simp only [World.size_alloc]; omega) _).alloc (by simp only [World.size_alloc]; omega) _⟩
theorem Gb.below {K : Nat} (h : Gb w w2 V0 V1 V2 r) (hb : Below K w2 w3) (hK : w.heap.size + 3 ≤ K) : Gb w w3 V0 V1 V2 r :=
  ⟨h.bx.below hb (by omega), h.br.below hb (by omega), h.ry.below hb (by omega), Nat.le_trans h.sz hb.size, h.bel.trans (hb.mono (by omega))⟩
theorem Gb.drew (h : Gb w w2 V0 V1 V2 r) : Gb w w2.drew V0 V1 V2 r := ⟨h.bx, h.br, h.ry, h.sz, h.bel.drew⟩
theorem Gb.other (h : Gb w w2 V0 V1 V2 r) {a : Addr} (ha : w.heap.size + 3 ≤ a.block) (u : Value) : Gb w (w2.setCell a u) V0 V1 V2 r :=
  h.below ((Below.refl (w.heap.size + 3) w2).setCell ha u) (Nat.le_refl _)
theorem Gb.set2 (h : Gb w w2 V0 V1 V2 r) (u : Value) : Gb w (w2.setCell ⟨w.heap.size, 2, none⟩ u) V0 V1 u r :=
  ⟨h.bx.set2 u, h.br.keep (ne_set u (by omega)), h.ry.keep (ne_set u (by omega)), by simpa using h.sz, h.bel.setCell (Nat.le_refl _) u⟩
end
theorem noneR_iff (t : ReqV) : noneR t = true ↔ t = noA := by unfold noneR noA; simp
theorem okG'.last {g : GameT} (h : okG' g) {r : AskT} (hr : okA r) : okG' (lastG g r) := ⟨h.ent, h.inc, h.flo, by
  intro x hx
  rcases set_mem hx with rfl | hx
  · exact ⟨by have := hr.2.1.1; omega, hr.2.1.2⟩
  · exact h.las x hx, h.n16, by simpa [lastG] using h.n4, h.sum⟩

set_option maxRecDepth 100000 in
set_option maxHeartbeats 2000000 in
theorem l2Do_c (A : Option Addr) (n c : Nat) (B : Option Addr) (p d : Nat) (E : Option Addr) (q f : Nat) (D : Nat → Prop) (g : GameT) (r : AskT) (w : World) (hg : GmD w D A n c B p d E q f g) (hD : ∀ b, D b → b < w.heap.size) (hok : okG' g) (hr : okNA r) :
    Calls Tryd.prog 23 #[.agg #[.slice A n c, .slice B p d, .slice E q f], .agg #[.int .i64 r.1, .int .i64 r.2.1, .int .i64 r.2.2.1, .int .i64 r.2.2.2.1, .int .i64 r.2.2.2.2]] w fun e w' => GmPost2 w D (doG g r) e w' := by
  have hs3 := Gb.made w (.slice A n c) (.slice B p d) (.slice E q f) r
  have hg3 := hg.below hs3.bel hD
  obtain ⟨xx0, xx1, xx2, xf0, xf1, xf2⟩ := hs3.bx.cells
  obtain ⟨rr0, rr1, rr2, rr3, rr4, -⟩ := hs3.br.cells
  obtain ⟨yy0, yy1, yy2, yg0, yg1, yg2⟩ := hs3.ry.cells
  have hz3 := hs3.sz
  cases hn : noneR r
  · have hr : okA r := hr.resolve_left (fun h => by rw [(noneR_iff r).2 h] at hn; cases hn)
    have hne : ¬ r = noA := fun h => by rw [(noneR_iff r).2 h] at hn; cases hn
    obtain rfl : q = 4 := by have h1 := hg.la.len; have h2 := hok.n4; omega
    obtain ⟨cl, hcl⟩ : ∃ cl : Nat, r.1 - 1 = (cl : Int) := ⟨(r.1 - 1).toNat, by have := hr.1.1; omega⟩
    have hcl4 : cl < g.2.2.length := by have h2 := hok.n4; have := hr.1.2; omega
    obtain ⟨bE, offE, rfl, hDbE⟩ := hg.la.addr hcl4
    have hEw := hD bE hDbE
    have hEw1 : bE < w.heap.size + 1 := by omega
    have hEw2 : bE < w.heap.size + 1 + 1 := by omega
    have hlast := hg.la.i64 hcl4
    have hgd := getD_at hcl4 (0 : Int)
    have htn : (r.1 - 1).toNat = cl := by omega
    have hcl4' : cl < 4 := by have h2 := hok.n4; omega
    have hcm := hg.la.cap
    have hcm2 := hg.la.max
    unfold maxLen at hcm2
    have hr1 := hr.1
    have hr2 := hr.2.1
    unfold rng at hr1 hr2
    have hln := hide hg.la.len
    have hok' := hide hok
    have hrh := hide hr
    have hgH := hide hg
    have htn' := hide htn
    have hgd' := hide hgd
    have hneH := hide hne
    clear hok hr hg htn hgd hne
    cases e1 : decide (r.2.1 ≤ g.2.2[cl])
    · have hh := hide (show doG g r = behG (lastG g r) r by
        unfold doG; rw [if_neg hneH.out, htn'.out, hgd'.out, if_neg (by simpa using e1)])
      go_enter Tryd.func23, Tryd.ntmps23
      go_wp2_with fail
      generalize (((w.alloc (.cells #[.slice A n c, .slice B p d, .slice (some ⟨bE, offE, none⟩) 4 f] 35)).alloc (.cells #[.int .i64 r.1, .int .i64 r.2.1, .int .i64 r.2.2.1, .int .i64 r.2.2.2.1, .int .i64 r.2.2.2.2] 37)).alloc (.cells #[.slice none 0 0, .slice none 0 0, .slice none 0 0] 35)) = w3 at *
      refine (l1None_c r.1 r.2.1 r.2.2.1 r.2.2.2.1 r.2.2.2.2 w3).mono ?_
      rintro e w4 ⟨rfl, hb4⟩
      rw [show noneR (r.1, r.2.1, r.2.2.1, r.2.2.2.1, r.2.2.2.2) = false from hn]
      have hs4 := hs3.below hb4 hz3
      have hg4 := hg3.below hb4 (fun b hb => by have := hD b hb; omega)
      have hz4 := hs4.sz
      clear xx0 xx1 xx2 xf0 xf1 xf2 rr0 rr1 rr2 rr3 rr4 yy0 yy1 yy2 yg0 yg1 yg2 hs3 hg3
      obtain ⟨xx0, xx1, xx2, xf0, xf1, xf2⟩ := hs4.bx.cells
      obtain ⟨rr0, rr1, rr2, rr3, rr4, -⟩ := hs4.br.cells
      obtain ⟨yy0, yy1, yy2, yg0, yg1, yg2⟩ := hs4.ry.cells
      have hl4 := hg4.la.i64 hcl4
      have hown4 : Own encI 1 3 ((w4.alloc (.cells #[] 3)).drew) w4.heap.size (.slice (some ⟨w4.heap.size, 0, none⟩) 0 0) [] := own_empty encI 1 3 w4
      have hA4 := ((Below.refl w4.heap.size w4).alloc (Nat.le_refl _) (.cells #[] 3)).drew
      have hsl4 : Hid (Sl encI 1 ((w4.alloc (.cells #[] 3)).drew) 0 w.heap.size (some ⟨bE, offE, none⟩) g.2.2) := hide ((hg4.la.sl hD).below hA4 (by omega))
      have hlx4 := hs4.bx.lt
      have hlr4 := hs4.br.lt
      have hlE4 : bE < w4.heap.size := by omega
      go_wp2
      refine wp_region_T (fun _ => True) [] [] [] [0, 1, 2, 3, 4, 5, 6, 7, 8, 9] (by kernel_rfl) (by kernel_rfl) (by kernel_rfl) trivial ?_; simp only [pickL, List.getElem?_cons_succ, List.getElem?_cons_zero]
      go_wp2_with (first
        | ((with_reducible refine wpT_q0 ?_ ?_ ?_ ?_); (focus rfl); (focus rfl); (focus rfl); intro K hK) | ((with_reducible refine wpT_x0 ?_ ?_ ?_); (focus rfl); (focus rfl); intro K hK) | ((with_reducible refine wpT_noL ?_ ?_); (focus (first | exact wanted_no _ _ _ rfl rfl rfl | exact wanted_un _ _ _ rfl rfl rfl)); simp only [setO, List.set_cons_succ, List.set_cons_zero]) | ((with_reducible refine wpT_q1 ?_ ?_ ?_ ?_); (focus exact wanted_yes _ _ _ rfl rfl rfl); (focus rfl); (focus rfl); intro K hK) | ((with_reducible refine wpT_x1 ?_ ?_ ?_); (focus exact wanted_yes _ _ _ rfl rfl rfl); (focus rfl); intro K hK) | ((with_reducible refine wpT_nil ?_); try dsimp only)
        | (at_builtin; refine wpList_app encI_len (by omega) encI_one rfl _ _ 23 rfl 3 _ 8 Tryd.underlying23 infoI rfl w4.heap.size _ [] rfl hown4 0 w.heap.size _ g.2.2 _ _ rfl hln.out hsl4.out (by have h1 := hln.out; simp only [List.length_nil, maxLen]; omega) (by have := hA4.size; omega) ?_)
        | fail)
      intro va wa hoa hgra hba
      try rw [List.nil_append] at hoa
      obtain ⟨g5, c5, rfl, hg51, hg52, hc51, hc52⟩ := hoa.at0 (by omega)
      rw [← hln.out] at hoa hc51 ⊢
      unfold maxLen at hc52
      have hb4a := hA4.trans hba
      have hsa := hs4.below hb4a hz4
      have hga := hg4.below hb4a (fun b hb => by have := hD b hb; omega)
      have hz4a := hb4a.size
      clear hown4 hA4 hsl4 hgra hba hs4 hg4 hl4
      clear xx0 xx1 xx2 xf0 xf1 xf2 rr0 rr1 rr2 rr3 rr4 yy0 yy1 yy2 yg0 yg1 yg2
      obtain ⟨xx0, xx1, xx2, xf0, xf1, xf2⟩ := hsa.bx.cells
      obtain ⟨rr0, rr1, rr2, rr3, rr4, -⟩ := hsa.br.cells
      obtain ⟨yy0, yy1, yy2, yg0, yg1, yg2⟩ := hsa.ry.cells
      have hlxa := hsa.bx.lt
      have hlra := hsa.br.lt
      have hq0 := (hoa.slAt encI_len).2.2.i64 hcl4
      simp only [Nat.zero_add] at hq0
      have hqf := hoa.frozen cl
      have hni1 : ¬ w.heap.size = g5 := by omega
      have hni2 : ¬ g5 = w.heap.size := by omega
      have hni3 : ¬ w.heap.size + 1 = g5 := by omega
      have hni4 : ¬ g5 = w.heap.size + 1 := by omega
      have hsc := (hsa.set2 (.slice (some ⟨g5, 0, none⟩) 4 c5)).other (a := ⟨g5, cl, none⟩) (by show _ ≤ g5; omega) (.int .i64 r.2.1)
      have hob := hoa.keep (w' := wa.setCell ⟨w.heap.size, 2, none⟩ (.slice (some ⟨g5, 0, none⟩) 4 c5)) (fun b hb => ne_set _ (by simp [Value.ownBlock] at hb; omega))
      have hoc := hob.put1 encI_len hcl4 r.2.1 0 (by omega) (.int .i64 r.2.1) rfl
      rw [Nat.mul_one, Nat.add_zero] at hoc
      have hgb := hga.keep (w' := (wa.setCell ⟨w.heap.size, 2, none⟩ (.slice (some ⟨g5, 0, none⟩) 4 c5)).setCell ⟨g5, cl, none⟩ (.int .i64 r.2.1)) (fun b hb => (ne_set _ (by have := hD b hb; omega)).trans (ne_set _ (by have := hD b hb; omega)))
      have hgc : GmD ((wa.setCell ⟨w.heap.size, 2, none⟩ (.slice (some ⟨g5, 0, none⟩) 4 c5)).setCell ⟨g5, cl, none⟩ (.int .i64 r.2.1)) (fun b => D b ∨ b = g5) A n c B p d (some ⟨g5, 0, none⟩) 4 c5 (lastG g r) := ⟨hgb.en.mono (fun b hb => .inl hb), hgb.fl.mono (fun b hb => .inl hb), by unfold lastG; rw [htn'.out]; exact hoc.rdG encI_len (.inr rfl), hgb.ad⟩
      have hDc : ∀ b, (D b ∨ b = g5) → b < ((wa.setCell ⟨w.heap.size, 2, none⟩ (.slice (some ⟨g5, 0, none⟩) 4 c5)).setCell ⟨g5, cl, none⟩ (.int .i64 r.2.1)).heap.size := fun b hb => by
        have : ((wa.setCell ⟨w.heap.size, 2, none⟩ (.slice (some ⟨g5, 0, none⟩) 4 c5)).setCell ⟨g5, cl, none⟩ (.int .i64 r.2.1)).heap.size = wa.heap.size := by simp
        rw [this]
        rcases hb with hb | hb
        · have := hD b hb; omega
        · omega
      have hzc := hsc.sz
      have hDcH := hide hDc
      have hgcH := hide hgc
      have hscH := hide hsc
      clear hoc hob hgb hga hDc hgc hsc
      go_wp2_with fail
      generalize (wa.setCell ⟨w.heap.size, 2, none⟩ (.slice (some ⟨g5, 0, none⟩) 4 c5)).setCell ⟨g5, cl, none⟩ (.int .i64 r.2.1) = wc at *
      have hDc := hDcH.out
      have hgc := hgcH.out
      have hsc := hscH.out
      clear hoa hsa
      have hok5 := hide (hok'.out.last hrh.out)
      have hcl1 := hrh.out.1
      cases hfi : figI g.1 r.1 with
      | none =>
        cases e2 : (r.2.2.1 == 1)
        · have hh2 := hide (show behG (lastG g r) r = (lastG g r, 5) by
            have h9 : ¬ r.2.2.1 = 1 := by simpa using e2
            unfold behG; rw [show figI (lastG g r).1 r.1 = none from hfi]; dsimp only; rw [if_neg h9])
          refine (l2At_none A n c B p d (some ⟨g5, 0, none⟩) 4 c5 0 wc.heap.size g.1 r.1 wc (hgc.en.rdn encEnt_len hDc) (Nat.le_refl _) hfi).mono ?_
          rintro e w5 ⟨rfl, hb5⟩
          have hs5 := hsc.below hb5 hzc
          have hg5 := hgc.below hb5 hDc
          have hD5 : ∀ b, (D b ∨ b = g5) → b < w5.heap.size := fun b hb => Nat.lt_of_lt_of_le (hDc b hb) hb5.size
          have hz5 := hs5.sz
          clear xx0 xx1 xx2 xf0 xf1 xf2 rr0 rr1 rr2 rr3 rr4 yy0 yy1 yy2 yg0 yg1 yg2
          obtain ⟨xx0, xx1, xx2, xf0, xf1, xf2⟩ := hs5.bx.cells
          obtain ⟨rr0, rr1, rr2, rr3, rr4, -⟩ := hs5.br.cells
          obtain ⟨yy0, yy1, yy2, yg0, yg1, yg2⟩ := hs5.ry.cells
          go_wp2
          refine bodyPost_ret (v := .tuple #[.agg #[.slice A n c, .slice B p d, .slice (some ⟨g5, 0, none⟩) 4 c5], .int .i64 5]) (by simp [results, Tryd.results23, go_sem, yy0, yy1, yy2, yg0, yg1, yg2]) rfl ?_
          rw [hh.out, hh2.out]
          refine GmPost2.fin (x := w.heap.size) (y := w.heap.size + 1 + 1) (w9 := w5) (D' := (fun b => D b ∨ b = g5)) _ (by (repeat (first | (with_reducible exact Onl.refl _ _ _) | (with_reducible exact Onl.drewL _ _ _) | (with_reducible refine Onl.set ?_ (by simp) _) | with_reducible refine Onl.drew ?_))) hs5.bel (Nat.le_refl _) (by omega) hg5 (fun b hb => ?_)
          have e5 := hD5 b
          have e6 := hb5.size
          rcases hb with hb | hb
          · have := hD b hb; exact ⟨by omega, by omega, .inl hb⟩
          · have := e5 (.inr hb); exact ⟨by omega, by omega, .inr ⟨by omega, by omega⟩⟩
        · have hh2 := hide (show behG (lastG g r) r = ((joinE g.1 r.1, (lastG g r).2.1, (lastG g r).2.2), 0) by
            have h9 : r.2.2.1 = 1 := by simpa using e2
            unfold behG; rw [show figI (lastG g r).1 r.1 = none from hfi]; dsimp only; rw [if_pos h9]; rfl)
          refine (l2At_none A n c B p d (some ⟨g5, 0, none⟩) 4 c5 0 wc.heap.size g.1 r.1 wc (hgc.en.rdn encEnt_len hDc) (Nat.le_refl _) hfi).mono ?_
          rintro e w5 ⟨rfl, hb5⟩
          have hs5 := hsc.below hb5 hzc
          have hg5 := hgc.below hb5 hDc
          have hD5 : ∀ b, (D b ∨ b = g5) → b < w5.heap.size := fun b hb => Nat.lt_of_lt_of_le (hDc b hb) hb5.size
          have hz5 := hs5.sz
          clear xx0 xx1 xx2 xf0 xf1 xf2 rr0 rr1 rr2 rr3 rr4 yy0 yy1 yy2 yg0 yg1 yg2
          obtain ⟨xx0, xx1, xx2, xf0, xf1, xf2⟩ := hs5.bx.cells
          obtain ⟨rr0, rr1, rr2, rr3, rr4, -⟩ := hs5.br.cells
          obtain ⟨yy0, yy1, yy2, yg0, yg1, yg2⟩ := hs5.ry.cells
          go_wp2_with fail
          refine (l2Join_c A n c B p d (some ⟨g5, 0, none⟩) 4 c5 (fun b => D b ∨ b = g5) (lastG g r) r.1 w5 hg5 hD5 hok5.out.toD hcl1).mono ?_
          rintro e w6 ⟨A6, n6, c6, B6, p6, d6, E6, q6, f6, rfl, hg6, hb6⟩
          have hs6 := hs5.below hb6 hz5
          clear xx0 xx1 xx2 xf0 xf1 xf2 rr0 rr1 rr2 rr3 rr4 yy0 yy1 yy2 yg0 yg1 yg2
          obtain ⟨xx0, xx1, xx2, xf0, xf1, xf2⟩ := hs6.bx.cells
          obtain ⟨rr0, rr1, rr2, rr3, rr4, -⟩ := hs6.br.cells
          obtain ⟨yy0, yy1, yy2, yg0, yg1, yg2⟩ := hs6.ry.cells
          go_wp2
          refine bodyPost_ret (v := .tuple #[.agg #[.slice A6 n6 c6, .slice B6 p6 d6, .slice E6 q6 f6], .int .i64 0]) (by simp [results, Tryd.results23, go_sem, yy0, yy1, yy2, yg0, yg1, yg2]) rfl ?_
          rw [hh.out, hh2.out]
          refine GmPost2.fin (x := w.heap.size) (y := w.heap.size + 1 + 1) (w9 := w6) (D' := Dn (fun b => D b ∨ b = g5) w5 w6) _ (by (repeat (first | (with_reducible exact Onl.refl _ _ _) | (with_reducible exact Onl.drewL _ _ _) | (with_reducible refine Onl.set ?_ (by simp) _) | with_reducible refine Onl.drew ?_))) hs6.bel (Nat.le_refl _) (by omega) hg6 (fun b hb => ?_)
          have e5 := hD5 b
          have e6 := hb5.size
          have e7 := hb6.size
          rcases hb with (hb | hb) | hb
          · have := hD b hb; exact ⟨by omega, by omega, .inl hb⟩
          · have := e5 (.inr hb); exact ⟨by omega, by omega, .inr ⟨by omega, by omega⟩⟩
          · exact ⟨by omega, by omega, .inr ⟨by omega, by omega⟩⟩
      | some k =>
        have hk5 : k < g.1.length := figI_lt hfi
        cases e2 : (r.2.2.1 == 1)
        · have hop := hide (show r.2.2.1 ≠ 1 by simpa using e2)
          have hh2 := hide (show behG (lastG g r) r = actG (lastG g r) k r by
            unfold behG; rw [show figI (lastG g r).1 r.1 = some k from hfi]; dsimp only; rw [if_neg hop.out])
          refine (l2At_some A n c B p d (some ⟨g5, 0, none⟩) 4 c5 0 wc.heap.size g.1 r.1 wc (hgc.en.rdn encEnt_len hDc) (Nat.le_refl _) k hfi).mono ?_
          rintro e w5 ⟨rfl, hb5⟩
          have hs5 := hsc.below hb5 hzc
          have hg5 := hgc.below hb5 hDc
          have hD5 : ∀ b, (D b ∨ b = g5) → b < w5.heap.size := fun b hb => Nat.lt_of_lt_of_le (hDc b hb) hb5.size
          have hz5 := hs5.sz
          clear xx0 xx1 xx2 xf0 xf1 xf2 rr0 rr1 rr2 rr3 rr4 yy0 yy1 yy2 yg0 yg1 yg2
          obtain ⟨xx0, xx1, xx2, xf0, xf1, xf2⟩ := hs5.bx.cells
          obtain ⟨rr0, rr1, rr2, rr3, rr4, -⟩ := hs5.br.cells
          obtain ⟨yy0, yy1, yy2, yg0, yg1, yg2⟩ := hs5.ry.cells
          go_wp2_with fail
          refine (l2Act_c A n c B p d (some ⟨g5, 0, none⟩) 4 c5 (fun b => D b ∨ b = g5) (lastG g r) k r w5 hg5 hD5 hok5.out hk5 hrh.out hop.out).mono ?_
          rintro e w6 ⟨A6, n6, c6, B6, p6, d6, E6, q6, f6, rfl, hg6, hb6⟩
          have hs6 := hs5.below hb6 hz5
          clear xx0 xx1 xx2 xf0 xf1 xf2 rr0 rr1 rr2 rr3 rr4 yy0 yy1 yy2 yg0 yg1 yg2
          obtain ⟨xx0, xx1, xx2, xf0, xf1, xf2⟩ := hs6.bx.cells
          obtain ⟨rr0, rr1, rr2, rr3, rr4, -⟩ := hs6.br.cells
          obtain ⟨yy0, yy1, yy2, yg0, yg1, yg2⟩ := hs6.ry.cells
          go_wp2
          refine bodyPost_ret (v := .tuple #[.agg #[.slice A6 n6 c6, .slice B6 p6 d6, .slice E6 q6 f6], .int .i64 (actG (lastG g r) k r).2]) (by simp [results, Tryd.results23, go_sem, yy0, yy1, yy2, yg0, yg1, yg2]) rfl ?_
          rw [hh.out, hh2.out]
          refine GmPost2.fin (x := w.heap.size) (y := w.heap.size + 1 + 1) (w9 := w6) (D' := Dn (fun b => D b ∨ b = g5) w5 w6) _ (by (repeat (first | (with_reducible exact Onl.refl _ _ _) | (with_reducible exact Onl.drewL _ _ _) | (with_reducible refine Onl.set ?_ (by simp) _) | with_reducible refine Onl.drew ?_))) hs6.bel (Nat.le_refl _) (by omega) hg6 (fun b hb => ?_)
          have e5 := hD5 b
          have e6 := hb5.size
          have e7 := hb6.size
          rcases hb with (hb | hb) | hb
          · have := hD b hb; exact ⟨by omega, by omega, .inl hb⟩
          · have := e5 (.inr hb); exact ⟨by omega, by omega, .inr ⟨by omega, by omega⟩⟩
          · exact ⟨by omega, by omega, .inr ⟨by omega, by omega⟩⟩
        · have hh2 := hide (show behG (lastG g r) r = (lastG g r, 4) by
            have h9 : r.2.2.1 = 1 := by simpa using e2
            unfold behG; rw [show figI (lastG g r).1 r.1 = some k from hfi]; dsimp only; rw [if_pos h9])
          refine (l2At_some A n c B p d (some ⟨g5, 0, none⟩) 4 c5 0 wc.heap.size g.1 r.1 wc (hgc.en.rdn encEnt_len hDc) (Nat.le_refl _) k hfi).mono ?_
          rintro e w5 ⟨rfl, hb5⟩
          have hs5 := hsc.below hb5 hzc
          have hg5 := hgc.below hb5 hDc
          have hD5 : ∀ b, (D b ∨ b = g5) → b < w5.heap.size := fun b hb => Nat.lt_of_lt_of_le (hDc b hb) hb5.size
          have hz5 := hs5.sz
          clear xx0 xx1 xx2 xf0 xf1 xf2 rr0 rr1 rr2 rr3 rr4 yy0 yy1 yy2 yg0 yg1 yg2
          obtain ⟨xx0, xx1, xx2, xf0, xf1, xf2⟩ := hs5.bx.cells
          obtain ⟨rr0, rr1, rr2, rr3, rr4, -⟩ := hs5.br.cells
          obtain ⟨yy0, yy1, yy2, yg0, yg1, yg2⟩ := hs5.ry.cells
          go_wp2
          refine bodyPost_ret (v := .tuple #[.agg #[.slice A n c, .slice B p d, .slice (some ⟨g5, 0, none⟩) 4 c5], .int .i64 4]) (by simp [results, Tryd.results23, go_sem, yy0, yy1, yy2, yg0, yg1, yg2]) rfl ?_
          rw [hh.out, hh2.out]
          refine GmPost2.fin (x := w.heap.size) (y := w.heap.size + 1 + 1) (w9 := w5) (D' := (fun b => D b ∨ b = g5)) _ (by (repeat (first | (with_reducible exact Onl.refl _ _ _) | (with_reducible exact Onl.drewL _ _ _) | (with_reducible refine Onl.set ?_ (by simp) _) | with_reducible refine Onl.drew ?_))) hs5.bel (Nat.le_refl _) (by omega) hg5 (fun b hb => ?_)
          have e5 := hD5 b
          have e6 := hb5.size
          rcases hb with hb | hb
          · have := hD b hb; exact ⟨by omega, by omega, .inl hb⟩
          · have := e5 (.inr hb); exact ⟨by omega, by omega, .inr ⟨by omega, by omega⟩⟩
    · have hh := hide (show doG g r = (g, 3) by
        unfold doG; rw [if_neg hneH.out, htn'.out, hgd'.out, if_pos (by simpa using e1)])
      go_enter Tryd.func23, Tryd.ntmps23
      go_wp2_with fail
      generalize (((w.alloc (.cells #[.slice A n c, .slice B p d, .slice (some ⟨bE, offE, none⟩) 4 f] 35)).alloc (.cells #[.int .i64 r.1, .int .i64 r.2.1, .int .i64 r.2.2.1, .int .i64 r.2.2.2.1, .int .i64 r.2.2.2.2] 37)).alloc (.cells #[.slice none 0 0, .slice none 0 0, .slice none 0 0] 35)) = w3 at *
      refine (l1None_c r.1 r.2.1 r.2.2.1 r.2.2.2.1 r.2.2.2.2 w3).mono ?_
      rintro e w4 ⟨rfl, hb4⟩
      rw [show noneR (r.1, r.2.1, r.2.2.1, r.2.2.2.1, r.2.2.2.2) = false from hn]
      have hs4 := hs3.below hb4 hz3
      have hg4 := hg3.below hb4 (fun b hb => by have := hD b hb; omega)
      have hz4 := hs4.sz
      clear hs3 hg3
      have hl4 := hg4.la.i64 hcl4
      clear xx0 xx1 xx2 xf0 xf1 xf2 rr0 rr1 rr2 rr3 rr4 yy0 yy1 yy2 yg0 yg1 yg2
      obtain ⟨xx0, xx1, xx2, xf0, xf1, xf2⟩ := hs4.bx.cells
      obtain ⟨rr0, rr1, rr2, rr3, rr4, -⟩ := hs4.br.cells
      obtain ⟨yy0, yy1, yy2, yg0, yg1, yg2⟩ := hs4.ry.cells
      go_wp2
      refine wp_region_T (fun _ => True) [] [] [] [0, 1, 2, 3, 4, 5, 6, 7, 8, 9] (by kernel_rfl) (by kernel_rfl) (by kernel_rfl) trivial ?_; simp only [pickL, List.getElem?_cons_succ, List.getElem?_cons_zero]
      go_wp2_with (first
        | ((with_reducible refine wpT_q0 ?_ ?_ ?_ ?_); (focus rfl); (focus rfl); (focus rfl); intro K hK) | ((with_reducible refine wpT_x0 ?_ ?_ ?_); (focus rfl); (focus rfl); intro K hK) | ((with_reducible refine wpT_noL ?_ ?_); (focus (first | exact wanted_no _ _ _ rfl rfl rfl | exact wanted_un _ _ _ rfl rfl rfl)); simp only [setO, List.set_cons_succ, List.set_cons_zero]) | ((with_reducible refine wpT_q1 ?_ ?_ ?_ ?_); (focus exact wanted_yes _ _ _ rfl rfl rfl); (focus rfl); (focus rfl); intro K hK) | ((with_reducible refine wpT_x1 ?_ ?_ ?_); (focus exact wanted_yes _ _ _ rfl rfl rfl); (focus rfl); intro K hK) | ((with_reducible refine wpT_nil ?_); try dsimp only)
        | fail)
      refine bodyPost_ret (v := .tuple #[.agg #[.slice A n c, .slice B p d, .slice (some ⟨bE, offE, none⟩) 4 f], .int .i64 3]) (by simp [results, Tryd.results23, go_sem, yy0, yy1, yy2, yg0, yg1, yg2]) rfl ?_
      rw [hh.out]
      exact GmPost2.fin (x := w.heap.size) (y := w.heap.size + 1 + 1) (w9 := w4) (D' := D) 3 (by (repeat (first | (with_reducible exact Onl.refl _ _ _) | (with_reducible exact Onl.drewL _ _ _) | (with_reducible refine Onl.set ?_ (by simp) _) | with_reducible refine Onl.drew ?_))) hs4.bel (Nat.le_refl _) (by omega) hg4 (fun b hb => by have := hD b hb; exact ⟨by omega, by omega, .inl hb⟩)
  · obtain rfl := (noneR_iff r).1 hn
    have hh := hide (show doG g noA = (g, 2) by unfold doG; simp)
    have hgH := hide hg
    clear hg hok
    go_enter Tryd.func23, Tryd.ntmps23
    go_wp2_with fail
    generalize (((w.alloc (.cells #[.slice A n c, .slice B p d, .slice E q f] 35)).alloc (.cells #[.int .i64 noA.1, .int .i64 noA.2.1, .int .i64 noA.2.2.1, .int .i64 noA.2.2.2.1, .int .i64 noA.2.2.2.2] 37)).alloc (.cells #[.slice none 0 0, .slice none 0 0, .slice none 0 0] 35)) = w3 at *
    refine (l1None_c noA.1 noA.2.1 noA.2.2.1 noA.2.2.2.1 noA.2.2.2.2 w3).mono ?_
    rintro e w4 ⟨rfl, hb4⟩
    rw [show noneR (noA.1, noA.2.1, noA.2.2.1, noA.2.2.2.1, noA.2.2.2.2) = true from hn]
    have hs4 := hs3.below hb4 hz3
    have hg4 := hg3.below hb4 (fun b hb => by have := hD b hb; omega)
    clear xx0 xx1 xx2 xf0 xf1 xf2 rr0 rr1 rr2 rr3 rr4 yy0 yy1 yy2 yg0 yg1 yg2 hs3 hg3
    obtain ⟨xx0, xx1, xx2, xf0, xf1, xf2⟩ := hs4.bx.cells
    obtain ⟨yy0, yy1, yy2, yg0, yg1, yg2⟩ := hs4.ry.cells
    go_wp2
    refine bodyPost_ret (v := .tuple #[.agg #[.slice A n c, .slice B p d, .slice E q f], .int .i64 2]) (by simp [results, Tryd.results23, go_sem, yy0, yy1, yy2, yg0, yg1, yg2]) rfl ?_
    rw [hh.out]
    exact GmPost2.fin (x := w.heap.size) (y := w.heap.size + 1 + 1) (w9 := w4) (D' := D) 2 (by (repeat (first | (with_reducible exact Onl.refl _ _ _) | (with_reducible exact Onl.drewL _ _ _) | (with_reducible refine Onl.set ?_ (by simp) _) | with_reducible refine Onl.drew ?_))) hs4.bel (Nat.le_refl _) (by omega) hg4 (fun b hb => by have := hD b hb; exact ⟨by omega, by omega, .inl hb⟩)
end Go.Proofs.YtajmfonepnkofaaDoor
namespace Go.Proofs.YtajmfonepnkofaaDoor
open Go Go.RowKit
set_option linter.unusedVariables false
set_option linter.unusedSimpArgs false

/-- An empty slice's block. -/
def Emp (w : World) (b : Nat) (e : TypeId) : Prop := w.heap[b]? = some (.cells #[] e (0, 0))
section
variable {w w' : World} {b : Nat} {e : TypeId}
theorem Emp.new (w : World) (e : TypeId) : Emp (w.alloc (.cells #[] e)) w.heap.size e := heap_alloc_new w _
theorem Emp.lt (h : Emp w b e) : b < w.heap.size := lt_of_heap h
theorem Emp.below {K : Nat} (h : Emp w b e) (hb : Below K w w') (hK : b < K) : Emp w' b e := (hb.block b hK).trans h
theorem Emp.alloc (h : Emp w b e) (o : Obj) : Emp (w.alloc o) b e := (Below.heap_alloc w o b h.lt).trans h
theorem Emp.drew (h : Emp w b e) : Emp w.drew b e := h
theorem Emp.app (h : Emp w b e) (hb : Below w.heap.size w w') : Emp w' b e := (hb.block b h.lt).trans h
end
section
variable {P : Program}
theorem run_app0 {α : Type} {enc : α → List Value} {sz : Nat} (hl : ∀ x, (enc x).length = sz) (h1c : ∀ x, ∀ u ∈ enc x, u.oneCell' = true) (t ty e : TypeId) (i : TypeInfo) (z : Value) (bytes : Nat) (ht : P.underlying t = some (.slice e)) (hi : P.info? e = some i) (hz : i.zero = some z)
    (hsize : i.size = sz) (hby : i.bytes = bytes) (hzs : z.cells.size = sz) {w : World} {lo b : Nat} (hE : Emp w b e) (hlo : lo ≤ b)
    (a : Addr) (ys : List α) (c : Nat) (hnews : ∀ j u, (ys.flatMap enc)[j]? = some u → w.cell? (a.add j) = some u)
    (hy : ys ≠ []) (h63 : ys.length ≤ maxLen) (hbytes : ys.length * bytes ≤ 140737488355328) :
    ∃ g cp w', (Builtin.append_ #[t, t] ty #[.slice (some ⟨b, 0, none⟩) 0 0, .slice (some a) ys.length c]).run P w = .ok (.slice (some ⟨g, 0, none⟩) ys.length cp) w' ∧ Own enc sz e w' lo (.slice (some ⟨g, 0, none⟩) ys.length cp) ys ∧ Below w.heap.size w w' := by
  subst hsize
  subst hby
  have hbl := hE.lt
  have hyl := flatMap_len hl ys
  have hpos : 0 < ys.length := by
    rcases Nat.eq_zero_or_pos ys.length with h | h
    · exact absurd (List.eq_nil_of_length_eq_zero h) hy
    · exact h
  have hr := run_append_grow (P := P) w t ty e i z ht hi hz ⟨b, 0, none⟩ 0 0 [] (by simp) (fun j u h => by simp at h) a ys.length c (ys.flatMap enc) hyl hnews (by omega) (by simp only [maxLen] at h63; omega) (growslice_fits (by omega) (by simpa using hbytes))
  have hge := grownCap_ge w ys.length 0 e
  have hcm : grownCap w ys.length 0 e ≤ maxLen := grownCap_le_maxLen w ys.length 0 e h63
  simp only [Nat.zero_add] at hr
  refine ⟨_, _, _, hr, .inr ⟨w.heap.size, grownCap w ys.length 0 e, _, rfl, by omega, heap_alloc_new w.drew _, hge, hcm, ?_, ?_⟩, ?_⟩
  · apply Nat.le_of_eq
    simp only [Array.size_append, List.size_toArray, size_zeroCells, hzs, hyl, List.length_nil, Nat.zero_add, ← Nat.add_mul]
    congr 1
    omega
  · simp only [Array.toList_append, List.append_assoc]
    rw [← hyl]
    exact List.take_left
  · exact (Below.refl w.heap.size w).drew.alloc (Nat.le_refl _) _

theorem wp_app0 {α : Type} {enc : α → List Value} {sz : Nat} (hl : ∀ x, (enc x).length = sz) (hsz : 0 < sz) (h1c : ∀ x, ∀ u ∈ enc x, u.oneCell' = true)
    {o : Oper} {a : Act} {w : World} {K : Act → World → Prop} {Q : Exit → Act → World → Prop} (s x : Operand) (t : TypeId)
    (ho : o.op = .call { callee := .builtin .append, args := #[s, x], argTypes := #[t, t] })
    (e : TypeId) (z : Value) (bytes : Nat) (ht : P.underlying t = some (.slice e)) (hi : (P.info? e).map (fun i => (i.zero, i.size, i.bytes)) = some (some z, sz, bytes)) (hzs : z.cells.size = sz)
    (lo b : Nat) (hs : a.eval s = .slice (some ⟨b, 0, none⟩) 0 0) (hE : Emp w b e) (hlo : lo ≤ b)
    (lo' hi' : Nat) (A : Option Addr) (ys : List α) (m c : Nat) (hx : a.eval x = .slice A m c) (hm : m = ys.length) (hsl : Sl enc sz w lo' hi' A ys)
    (hbound : ys.length * bytes ≤ 140737488355328 ∧ ys.length ≤ maxLen)
    (h : ∀ g cp w', Own enc sz e w' lo (.slice (some ⟨g, 0, none⟩) m cp) ys → Below w.heap.size w w' → K (a.put o.dst (.slice (some ⟨g, 0, none⟩) m cp)) w') : o.wp P a w K Q := by
  subst hm
  obtain ⟨i, hi, hz, hsize, hby⟩ := info_parts hi
  by_cases hy : ys = []
  · subst hy
    have hrun : (Builtin.append_ #[t, t] o.type #[.slice (some ⟨b, 0, none⟩) 0 0, .slice A 0 c]).run P w = .ok (.slice (some ⟨b, 0, none⟩) 0 0) w := by
      cases A <;> simp [Builtin.append_, run_underlying ht, sizeOf, typeInfo, hi, Builtin.lenOf, Builtin.firstCells, loadCells, loadCellsFrom, storeCells]
    unfold Oper.wp execOp
    simp only [ho, resolve, invoke, builtin, Sem.run_bind, Sem.run_pure, Result.andThen_ok, List.map_toArray, List.map_cons, List.map_nil, hs, hx, List.length_nil, hrun]
    have hE' : w.heap[b]? = some (.cells #[] e (0, 0)) := hE
    exact h b 0 w (.inr ⟨b, 0, #[], rfl, hlo, hE', Nat.le_refl _, by simp [maxLen], by simp, by simp⟩) (Below.refl _ _)
  · obtain ⟨b', off, rfl, _, _, hc⟩ := hsl hy
    have hnews : ∀ j u, (ys.flatMap enc)[j]? = some u → w.cell? ((⟨b', off, none⟩ : Addr).add j) = some u := by
      intro j u hu
      have hj : j < ys.length * sz := by rw [← flatMap_len hl ys]; exact (List.getElem?_eq_some_iff.1 hu).1
      have hk : j / sz < ys.length := Nat.div_lt_of_lt_mul (by rw [Nat.mul_comm]; exact hj)
      have hr : j % sz < sz := Nat.mod_lt _ hsz
      have hdm : j / sz * sz + j % sz = j := by rw [Nat.mul_comm]; exact Nat.div_add_mod j sz
      have hu' : (enc ys[j / sz])[j % sz]? = some ((enc ys[j / sz])[j % sz]'(by rw [hl]; exact hr)) := List.getElem?_eq_getElem _
      have h5 := flatMap_get hl ys (j / sz) ys[j / sz] (List.getElem?_eq_getElem hk) (j % sz) _ hu'
      rw [hdm, hu] at h5
      injection h5 with h5
      have h6 := hc (j / sz) ys[j / sz] (List.getElem?_eq_getElem hk) (j % sz) _ hu'
      rw [Nat.add_assoc, hdm, ← h5] at h6
      simpa [Addr.add] using (by by_cases hj0 : j = 0 <;> simp [hj0] at h6 ⊢ <;> exact h6)
    obtain ⟨g, cp, w', hrun, h2, hB⟩ := run_app0 hl h1c t o.type e i z bytes ht hi hz hsize hby hzs hE hlo ⟨b', off, none⟩ ys c hnews hy hbound.2 hbound.1
    unfold Oper.wp execOp
    simp only [ho, resolve, invoke, builtin, Sem.run_bind, Sem.run_pure, Result.andThen_ok, List.map_toArray, List.map_cons, List.map_nil, hs, hx, hrun]
    exact h g cp w' h2 hB

theorem wpList_app0 {α : Type} {enc : α → List Value} {sz : Nat} (hl : ∀ x, (enc x).length = sz) (hsz : 0 < sz) (h1c : ∀ x, ∀ u ∈ enc x, u.oneCell' = true)
    {ops : Array Oper} {rest : List Oper} {o : Oper} {a : Act} {w : World} {Q : Exit → Act → World → Prop} (hgd : o.guard = none) (s x : Operand) (t : TypeId)
    (ho : o.op = .call { callee := .builtin .append, args := #[s, x], argTypes := #[t, t] })
    (e : TypeId) (z : Value) (bytes : Nat) (ht : P.underlying t = some (.slice e)) (hi : (P.info? e).map (fun i => (i.zero, i.size, i.bytes)) = some (some z, sz, bytes)) (hzs : z.cells.size = sz)
    (lo b : Nat) (hs : a.eval s = .slice (some ⟨b, 0, none⟩) 0 0) (hE : Emp w b e) (hlo : lo ≤ b)
    (lo' hi' : Nat) (A : Option Addr) (ys : List α) (m c : Nat) (hx : a.eval x = .slice A m c) (hm : m = ys.length) (hsl : Sl enc sz w lo' hi' A ys)
    (hbound : ys.length * bytes ≤ 140737488355328 ∧ ys.length ≤ maxLen)
    (h : ∀ g cp w', Own enc sz e w' lo (.slice (some ⟨g, 0, none⟩) m cp) ys → Below w.heap.size w w' → wpList P ops Q rest (a.put o.dst (.slice (some ⟨g, 0, none⟩) m cp)) w') : wpList P ops Q (o :: rest) a w :=
  wpList_plain hgd fun _ hK => wp_app0 hl hsz h1c s x t ho e z bytes ht hi hzs lo b hs hE hlo lo' hi' A ys m c hx hm hsl hbound fun g cp w' h2 h3 => hK _ _ (h g cp w' h2 h3)
end
end Go.Proofs.YtajmfonepnkofaaDoor
