/-
  Games in the reference: 'l2Hit'. (Printed by gen_hd.py.)
  Conditions: none.
-/
import Derived.Test.YtajmfonepnkofaaDoorHC
namespace Go.Proofs.YtajmfonepnkofaaDoor
open Go.RowKit Rg
set_option linter.unusedVariables false
set_option linter.unusedSimpArgs false

/-- Changes in blocks x and y alone. -/
structure Onl (x y : Nat) (w w' : World) : Prop where
  blk : ∀ b, b ≠ x → b ≠ y → w'.heap[b]? = w.heap[b]?
  size : w'.heap.size = w.heap.size
  bel : ∀ (B : Nat) (a : World), B ≤ x → B ≤ y → Below B a w → Below B a w'
theorem Onl.refl (x y : Nat) (w : World) : Onl x y w w := ⟨fun _ _ _ => rfl, rfl, fun _ _ _ _ h => h⟩
theorem Onl.set {x y : Nat} {w w' : World} (h : Onl x y w w') {p : Addr} (hp : p.block = x ∨ p.block = y) (v : Value) : Onl x y w (w'.setCell p v) :=
  ⟨fun b h1 h2 => (Below.heap_setCell w' p v b (by rcases hp with e | e <;> rw [e] <;> assumption)).trans (h.blk b h1 h2), by simp [h.size], fun B a h1 h2 hb => (h.bel B a h1 h2 hb).setCell (by rcases hp with e | e <;> omega) v⟩
theorem Onl.drew {x y : Nat} {w w' : World} (h : Onl x y w w') : Onl x y w w'.drew := ⟨h.blk, h.size, fun B a h1 h2 hb => (h.bel B a h1 h2 hb).drew⟩
theorem Onl.drewL (x y : Nat) (w : World) : Onl x y w.drew w := ⟨fun _ _ _ => rfl, rfl, fun _ _ _ _ h => ⟨h.os, h.tape, h.output, h.size, h.block⟩⟩
/-- A game and a number. -/
def GmPost2 (w : World) (D : Nat → Prop) (gc : GameT × Int) (e : Ending) (w' : World) : Prop := ∃ (A : Option Addr) (n c : Nat) (B : Option Addr) (p d : Nat) (E : Option Addr) (q f : Nat),
  e = .returned (.tuple #[.agg #[.slice A n c, .slice B p d, .slice E q f], .int .i64 gc.2]) ∧ GmD w' (Dn D w w') A n c B p d E q f gc.1 ∧ Below w.heap.size w w'
section
variable {w w9 w' : World} {D D' : Nat → Prop} {x y : Nat} {A : Option Addr} {n c : Nat} {B : Option Addr} {p d : Nat} {E : Option Addr} {q f : Nat} {g : GameT}
theorem gm_fin (hO : Onl x y w9 w') (hB : Below w.heap.size w w9) (hx : w.heap.size ≤ x) (hy : w.heap.size ≤ y) (hg : GmD w9 D' A n c B p d E q f g)
    (hD : ∀ b, D' b → b ≠ x ∧ b ≠ y ∧ (D b ∨ w.heap.size ≤ b ∧ b < w9.heap.size)) : GmD w' (Dn D w w') A n c B p d E q f g ∧ Below w.heap.size w w' :=
  ⟨(hg.keep fun b hb => hO.blk b (hD b hb).1 (hD b hb).2.1).mono fun b hb => by
    rcases (hD b hb).2.2 with h | h
    · exact .inl h
    · exact .inr ⟨h.1, by rw [hO.size]; exact h.2⟩, hO.bel _ _ hx hy hB⟩
theorem GmPost2.fin (code : Int) (hO : Onl x y w9 w') (hB : Below w.heap.size w w9) (hx : w.heap.size ≤ x) (hy : w.heap.size ≤ y) (hg : GmD w9 D' A n c B p d E q f g)
    (hD : ∀ b, D' b → b ≠ x ∧ b ≠ y ∧ (D b ∨ w.heap.size ≤ b ∧ b < w9.heap.size)) :
    GmPost2 w D (g, code) (.returned (.tuple #[.agg #[.slice A n c, .slice B p d, .slice E q f], .int .i64 code])) w' :=
  ⟨A, n, c, B, p, d, E, q, f, rfl, (gm_fin hO hB hx hy hg hD).1, (gm_fin (D := D) hO hB hx hy hg hD).2⟩
end
/-- The boxes of a step: the game it got, and the one it returns. -/
structure Gs (w w2 : World) (V0 V1 V2 : Value) : Prop where
  bx : Bx3 w2 w.heap.size V0 V1 V2 35
  ry : Bx3 w2 (w.heap.size + 1) (.slice none 0 0) (.slice none 0 0) (.slice none 0 0) 35
  sz : w.heap.size + 1 + 1 ≤ w2.heap.size
  bel : Below w.heap.size w w2
section
variable {w w2 w3 : World} {V0 V1 V2 : Value}
theorem Gs.made (w : World) (V0 V1 V2 : Value) : Gs w ((w.alloc (.cells #[V0, V1, V2] 35)).alloc (.cells #[.slice none 0 0, .slice none 0 0, .slice none 0 0] 35)) V0 V1 V2 := by
  have h1 := Bx3.made w V0 V1 V2 35
  have h2 := Bx3.made (w.alloc (.cells #[V0, V1, V2] 35)) (.slice none 0 0) (.slice none 0 0) (.slice none 0 0) 35
  exact ⟨h1.below ((Below.refl _ _).alloc (Nat.le_refl _) _) h1.lt, by simpa only [World.size_alloc] using h2, by simp, ((Below.refl w.heap.size w).alloc (Nat.le_refl _) _).alloc (by simp) _⟩
theorem Gs.below {K : Nat} (h : Gs w w2 V0 V1 V2) (hb : Below K w2 w3) (hK : w.heap.size + 1 + 1 ≤ K) : Gs w w3 V0 V1 V2 :=
  ⟨h.bx.below hb (by omega), h.ry.below hb (by omega), Nat.le_trans h.sz hb.size, h.bel.trans (hb.mono (by omega))⟩
theorem Gs.drew (h : Gs w w2 V0 V1 V2) : Gs w w2.drew V0 V1 V2 := ⟨h.bx, h.ry, h.sz, h.bel.drew⟩
theorem Gs.other (h : Gs w w2 V0 V1 V2) {a : Addr} (ha : w.heap.size + 1 + 1 ≤ a.block) (u : Value) : Gs w (w2.setCell a u) V0 V1 V2 :=
  h.below ((Below.refl (w.heap.size + 1 + 1) w2).setCell ha u) (Nat.le_refl _)
theorem Gs.set0 (h : Gs w w2 V0 V1 V2) (u : Value) : Gs w (w2.setCell ⟨w.heap.size, 0, none⟩ u) u V1 V2 :=
  ⟨h.bx.set0 u, h.ry.keep (Below.heap_setCell w2 ⟨w.heap.size, 0, none⟩ u _ (by show w.heap.size + 1 ≠ w.heap.size; omega)), by simpa using h.sz, h.bel.setCell (Nat.le_refl _) u⟩
theorem Gs.set1 (h : Gs w w2 V0 V1 V2) (u : Value) : Gs w (w2.setCell ⟨w.heap.size, 1, none⟩ u) V0 u V2 :=
  ⟨h.bx.set1 u, h.ry.keep (Below.heap_setCell w2 ⟨w.heap.size, 1, none⟩ u _ (by show w.heap.size + 1 ≠ w.heap.size; omega)), by simpa using h.sz, h.bel.setCell (Nat.le_refl _) u⟩
theorem Gs.set2 (h : Gs w w2 V0 V1 V2) (u : Value) : Gs w (w2.setCell ⟨w.heap.size, 2, none⟩ u) V0 V1 u :=
  ⟨h.bx.set2 u, h.ry.keep (Below.heap_setCell w2 ⟨w.heap.size, 2, none⟩ u _ (by show w.heap.size + 1 ≠ w.heap.size; omega)), by simpa using h.sz, h.bel.setCell (Nat.le_refl _) u⟩
end
theorem Own.rdG {α : Type} {enc : α → List Value} {sz lo : Nat} {e : TypeId} {w : World} {xs : List α} {D : Nat → Prop} (hl : ∀ x, (enc x).length = sz) {g n c : Nat} (h : Own enc sz e w lo (.slice (some ⟨g, 0, none⟩) n c) xs) (hD : D g) : RdD enc sz w D (some ⟨g, 0, none⟩) n c xs := by
  obtain ⟨h1, h2, h3⟩ := h.slAt hl
  refine ⟨h1, h2, h.cap.2, fun hne => ?_⟩
  obtain ⟨b, off, e, _, _, h6⟩ := h3 hne
  injection e with e
  injection e with e1 e2
  subst e1; subst e2
  exact ⟨g, 0, rfl, hD, h6⟩
/-- A slice of the call's own that is not empty. -/
theorem Own.at0 {α : Type} {enc : α → List Value} {sz lo : Nat} {e : TypeId} {w : World} {v : Value} {xs : List α} (h : Own enc sz e w lo v xs) (hx : 0 < xs.length) : ∃ g c, v = .slice (some ⟨g, 0, none⟩) xs.length c ∧ lo ≤ g ∧ g < w.heap.size ∧ xs.length ≤ c ∧ c ≤ maxLen := by
  obtain ⟨A, c, rfl, h1, h2, _⟩ := h.form
  obtain ⟨g, rfl, h3, h4⟩ := h.addrAt hx
  exact ⟨g, c, rfl, h3, h4, h1, h2⟩
theorem flatMap_set1 {α : Type} {enc : α → List Value} {sz : Nat} (hl : ∀ x, (enc x).length = sz) (u : Value) (j : Nat) (hj : j < sz) : ∀ (xs : List α) (i : Nat) (x : α) (h : i < xs.length), enc x = (enc xs[i]).set j u → (xs.set i x).flatMap enc = (xs.flatMap enc).set (i * sz + j) u
  | [], i, x, h, _ => by simp at h
  | y :: xs, 0, x, h, hx => by
    simp only [List.set_cons_zero, List.flatMap_cons, List.getElem_cons_zero, Nat.zero_mul, Nat.zero_add] at hx ⊢
    rw [List.set_append_left _ _ (by rw [hl]; exact hj), hx]
  | y :: xs, i + 1, x, h, hx => by
    have ih := flatMap_set1 hl u j hj xs i x (by simpa using h) (by simpa using hx)
    simp only [List.set_cons_succ, List.flatMap_cons, ih]
    rw [List.set_append_right _ _ (by rw [hl, Nat.add_mul]; omega), hl, Nat.add_mul, show i * sz + 1 * sz + j - sz = i * sz + j by omega]
/-- One cell of an element, written. -/
theorem Own.put1 {α : Type} {enc : α → List Value} {sz lo : Nat} {e : TypeId} {w : World} {xs : List α} (hl : ∀ x, (enc x).length = sz) {g n c : Nat} (h : Own enc sz e w lo (.slice (some ⟨g, 0, none⟩) n c) xs) {i : Nat} (hi : i < xs.length) (x : α) (j : Nat) (hj : j < sz) (u : Value) (hx : enc x = (enc xs[i]).set j u) :
    Own enc sz e (w.setCell ⟨g, i * sz + j, none⟩ u) lo (.slice (some ⟨g, 0, none⟩) n c) (xs.set i x) := by
  obtain ⟨rfl, hg, cur, hh, h1, h2, h3, h4⟩ := h.row
  have h5 : (w.setCell ⟨g, i * sz + j, none⟩ u).heap[g]? = some (.cells (cur.setIfInBounds (i * sz + j) u) e (0, 0)) := by
    simp [World.setCell, Array.getElem?_modify, hh]
  have hz : (xs.set i x).length = xs.length := by simp
  have := Own.of_row (enc := enc) (sz := sz) (xs := xs.set i x) (c := c) hg h5 (by omega) h2 (by simpa using h3) (by
    rw [hz, flatMap_set1 hl u j hj xs i x hi hx, ← h4, Array.toList_setIfInBounds, List.take_set])
  rwa [hz] at this
def optI (m : Option Nat) : Int := match m with | some n => (n : Int) | none => -1
theorem atI_opt (es : List EntT) (c : Int) : atI es c = optI (figI es c) := by unfold atI optI; cases figI es c <;> rfl
/-- What a hit does. -/
def hitG (g : GameT) (k : Nat) : Option Nat → GameT × Int
  | none => (g, 8)
  | some n => if n = k ∨ ¬ nearE (g.1.getD k ent0) (g.1.getD n ent0) then (g, 8)
    else if (g.1.getD n ent0).2.2.2.1 - 1 ≤ 0 then ((g.1.eraseIdx n, g.2.1.set (sqr (g.1.getD n ent0)) (g.2.1.getD (sqr (g.1.getD n ent0)) 0 + (g.1.getD n ent0).2.2.2.2), g.2.2), 0)
    else ((g.1.set n (hitE (g.1.getD n ent0)), g.2.1, g.2.2), 0)
theorem hitG_other (g : GameT) (k n : Nat) (r : AskT) (h : r.2.2.1 ≠ 5) : other g k n r = hitG g k (some n) := by
  unfold other hitG
  simp only [h, if_false]
theorem hitG_none (g : GameT) (k : Nat) : hitG g k none = (g, 8) := rfl
theorem hitG_self {g : GameT} {k n : Nat} (h : n = k) : hitG g k (some n) = (g, 8) := by simp [hitG, h]
theorem hitG_far {g : GameT} {k n : Nat} (hk : k < g.1.length) (hn : n < g.1.length) (h : ¬ nearE g.1[k] g.1[n]) : hitG g k (some n) = (g, 8) := by simp [hitG, List.getD, List.getElem?_eq_getElem hk, List.getElem?_eq_getElem hn, h]
theorem hitG_hit {g : GameT} {k n : Nat} (hk : k < g.1.length) (hn : n < g.1.length) (hne : n ≠ k) (h : nearE g.1[k] g.1[n]) (hl : ¬ g.1[n].2.2.2.1 - 1 ≤ 0) : hitG g k (some n) = ((g.1.set n (hitE g.1[n]), g.2.1, g.2.2), 0) := by
  simp only [hitG, getD_at hk, getD_at hn, hne, h, not_true, or_false, if_false, hl]
theorem hitG_drop {g : GameT} {k n : Nat} (hk : k < g.1.length) (hn : n < g.1.length) (hne : n ≠ k) (h : nearE g.1[k] g.1[n]) (hl : g.1[n].2.2.2.1 - 1 ≤ 0) : hitG g k (some n) = ((g.1.eraseIdx n, g.2.1.set (sqr g.1[n]) (g.2.1.getD (sqr g.1[n]) 0 + g.1[n].2.2.2.2), g.2.2), 0) := by
  simp only [hitG, getD_at hk, getD_at hn, hne, h, not_true, or_false, if_false, hl, if_true]
theorem erase_set {α : Type} : ∀ (l : List α) (n : Nat) (x : α), (l.set n x).eraseIdx n = l.eraseIdx n
  | [], _, _ => rfl
  | _ :: _, 0, _ => rfl
  | a :: l, n + 1, x => by simp only [List.set_cons_succ, List.eraseIdx_cons_succ, erase_set l n x]
theorem okD.setE {g : GameT} (h : okD g) {n : Nat} (hn : n < g.1.length) {e : EntT} (h1 : e.1 = g.1[n].1) (h2 : rng e.2.1 0 3 ∧ rng e.2.2.1 0 3 ∧ rng e.2.2.2.2 0 20) : okD (g.1.set n e, g.2.1, g.2.2) :=
  ⟨fun x hx => by
    rcases set_mem hx with rfl | hx
    · exact ⟨by rw [h1]; exact (h.ent _ (List.getElem_mem hn)).1, h2⟩
    · exact h.ent x hx, inc_set h.inc n e hn (by rw [h1, getD_at hn]), h.flo, h.n16⟩

set_option maxRecDepth 100000 in
set_option maxHeartbeats 2000000 in
theorem l2Hit_c (A : Option Addr) (n c : Nat) (B : Option Addr) (p d : Nat) (E : Option Addr) (q f : Nat) (D : Nat → Prop) (g : GameT) (k : Nat) (m : Option Nat) (w : World) (hg : GmD w D A n c B p d E q f g) (hD : ∀ b, D b → b < w.heap.size) (hok : okG' g) (hk : k < g.1.length) (hm : ∀ i, m = some i → i < g.1.length) :
    Calls Tryd.prog 79 #[.agg #[.slice A n c, .slice B p d, .slice E q f], .int .i64 (k : Int), .int .i64 (optI m)] w fun e w' => GmPost2 w D (hitG g k m) e w' := by
  have hs2 := Gs.made w (.slice A n c) (.slice B p d) (.slice E q f)
  have hg2 := hg.below hs2.bel hD
  have hn' := hide hg.en.len
  have hc1 := hg.en.cap
  have hc2 := hg.en.max
  unfold maxLen at hc2
  have hkn : k < n := by have := hn'.out; omega
  have hn4 : Hid (n ≤ 4) := hide (by
    have h1 := hok.ent
    have h3 := inc_len hok.inc (fun e he => (h1 e he).1)
    have := hn'.out
    omega)
  obtain ⟨b, off, rfl, hDb⟩ := hg.en.addr hk
  have hbw := hD b hDb
  clear hg
  cases m with
  | none =>
    rw [hitG_none]
    unfold optI
    dsimp only
    obtain ⟨xx0, xx1, xx2, xf0, xf1, xf2⟩ := hs2.bx.cells
    obtain ⟨yy0, yy1, yy2, yg0, yg1, yg2⟩ := hs2.ry.cells
    have hz2 := hs2.sz
    go_enter Tryd.func79, Tryd.ntmps79
    go_wp2
    generalize ((w.alloc (.cells #[.slice (some ⟨b, off, none⟩) n c, .slice B p d, .slice E q f] 35)).alloc (.cells #[.slice none 0 0, .slice none 0 0, .slice none 0 0] 35)) = w2 at *
    refine wp_region_T (fun _ => True) [] [] [] [0, 1, 2, 3, 4, 5, 6, 7, 8, 9, 10, 11, 12, 13, 14, 15, 16, 17, 18, 19, 20] (by kernel_rfl) (by kernel_rfl) (by kernel_rfl) trivial ?_; simp only [pickL, List.getElem?_cons_succ, List.getElem?_cons_zero]
    go_wp2_with (first
      | ((with_reducible refine wpT_q0 ?_ ?_ ?_ ?_); (focus rfl); (focus rfl); (focus rfl); intro K hK) | ((with_reducible refine wpT_x0 ?_ ?_ ?_); (focus rfl); (focus rfl); intro K hK) | ((with_reducible refine wpT_noL ?_ ?_); (focus (first | exact wanted_no _ _ _ rfl rfl rfl | exact wanted_un _ _ _ rfl rfl rfl)); simp only [setO, List.set_cons_succ, List.set_cons_zero]) | ((with_reducible refine wpT_q1 ?_ ?_ ?_ ?_); (focus exact wanted_yes _ _ _ rfl rfl rfl); (focus rfl); (focus rfl); intro K hK) | ((with_reducible refine wpT_x1 ?_ ?_ ?_); (focus exact wanted_yes _ _ _ rfl rfl rfl); (focus rfl); intro K hK) | ((with_reducible refine wpT_nil ?_); try dsimp only)
      | fail)
    refine bodyPost_ret (v := .tuple #[.agg #[.slice (some ⟨b, off, none⟩) n c, .slice B p d, .slice E q f], .int .i64 8]) (by simp [results, Tryd.results79, go_sem, yy0, yy1, yy2, yg0, yg1, yg2]) rfl (GmPost2.fin (x := w.heap.size) (y := w.heap.size + 1) (w9 := w2) (D' := D) 8 (by (repeat (first | (with_reducible exact Onl.refl _ _ _) | (with_reducible exact Onl.drewL _ _ _) | (with_reducible refine Onl.set ?_ (by simp) _) | with_reducible refine Onl.drew ?_))) hs2.bel (Nat.le_refl _) (Nat.le_succ _) hg2 (fun b hb => by have := hD b hb; exact ⟨by omega, by omega, .inl hb⟩))
  | some i =>
    have hi := hm i rfl
    have hin : i < n := by have := hn'.out; omega
    unfold optI
    dsimp only
    by_cases hik : i = k
    · rw [hitG_self hik]
      have hik' : (((k : Nat) : Int) == ((i : Nat) : Int)) = true := by simp [hik]
      have hik2 : (((i : Nat) : Int) == ((k : Nat) : Int)) = true := by simp [hik]
      have hikh := hide hik
      clear hik
      obtain ⟨xx0, xx1, xx2, xf0, xf1, xf2⟩ := hs2.bx.cells
      obtain ⟨yy0, yy1, yy2, yg0, yg1, yg2⟩ := hs2.ry.cells
      have hz2 := hs2.sz
      go_enter Tryd.func79, Tryd.ntmps79
      go_wp2
      generalize ((w.alloc (.cells #[.slice (some ⟨b, off, none⟩) n c, .slice B p d, .slice E q f] 35)).alloc (.cells #[.slice none 0 0, .slice none 0 0, .slice none 0 0] 35)) = w2 at *
      refine wp_region_T (fun _ => True) [] [] [] [0, 1, 2, 3, 4, 5, 6, 7, 8, 9, 10, 11, 12, 13, 14, 15, 16, 17, 18, 19, 20] (by kernel_rfl) (by kernel_rfl) (by kernel_rfl) trivial ?_; simp only [pickL, List.getElem?_cons_succ, List.getElem?_cons_zero]
      go_wp2_with (first
        | ((with_reducible refine wpT_q0 ?_ ?_ ?_ ?_); (focus rfl); (focus rfl); (focus rfl); intro K hK) | ((with_reducible refine wpT_x0 ?_ ?_ ?_); (focus rfl); (focus rfl); intro K hK) | ((with_reducible refine wpT_noL ?_ ?_); (focus (first | exact wanted_no _ _ _ rfl rfl rfl | exact wanted_un _ _ _ rfl rfl rfl)); simp only [setO, List.set_cons_succ, List.set_cons_zero]) | ((with_reducible refine wpT_q1 ?_ ?_ ?_ ?_); (focus exact wanted_yes _ _ _ rfl rfl rfl); (focus rfl); (focus rfl); intro K hK) | ((with_reducible refine wpT_x1 ?_ ?_ ?_); (focus exact wanted_yes _ _ _ rfl rfl rfl); (focus rfl); intro K hK) | ((with_reducible refine wpT_nil ?_); try dsimp only)
        | fail)
      refine bodyPost_ret (v := .tuple #[.agg #[.slice (some ⟨b, off, none⟩) n c, .slice B p d, .slice E q f], .int .i64 8]) (by simp [results, Tryd.results79, go_sem, yy0, yy1, yy2, yg0, yg1, yg2]) rfl (GmPost2.fin (x := w.heap.size) (y := w.heap.size + 1) (w9 := w2) (D' := D) 8 (by (repeat (first | (with_reducible exact Onl.refl _ _ _) | (with_reducible exact Onl.drewL _ _ _) | (with_reducible refine Onl.set ?_ (by simp) _) | with_reducible refine Onl.drew ?_))) hs2.bel (Nat.le_refl _) (Nat.le_succ _) hg2 (fun b hb => by have := hD b hb; exact ⟨by omega, by omega, .inl hb⟩))
    · have hik' : (((k : Nat) : Int) == ((i : Nat) : Int)) = false := by simp; omega
      have hik2 : (((i : Nat) : Int) == ((k : Nat) : Int)) = false := by simp; omega
      have hikh := hide hik
      clear hik
      have hek := hok.ent _ (List.getElem_mem hk)
      have hei := hok.ent _ (List.getElem_mem hi)
      obtain ⟨a0, a1, a2, a3, a4⟩ := hg2.en.ent hk
      obtain ⟨b0, b1, b2, b3, b4⟩ := hg2.en.ent hi
      obtain ⟨xx0, xx1, xx2, xf0, xf1, xf2⟩ := hs2.bx.cells
      obtain ⟨yy0, yy1, yy2, yg0, yg1, yg2⟩ := hs2.ry.cells
      have hz2 := hs2.sz
      have hok' := hide hok
      clear hok
      cases e1 : decide (nearE g.1[k] g.1[i])
      · have hno := hide (show ¬ nearE g.1[k] g.1[i] by simpa using e1)
        rw [hitG_far hk hi hno.out]
        go_enter Tryd.func79, Tryd.ntmps79
        go_wp2
        generalize ((w.alloc (.cells #[.slice (some ⟨b, off, none⟩) n c, .slice B p d, .slice E q f] 35)).alloc (.cells #[.slice none 0 0, .slice none 0 0, .slice none 0 0] 35)) = w2 at *
        refine wp_region_T (fun _ => True) [] [] [] [0, 1, 2, 3, 4, 5, 6, 7, 8, 9, 10, 11, 12, 13, 14, 15, 16, 17, 18, 19, 20] (by kernel_rfl) (by kernel_rfl) (by kernel_rfl) trivial ?_; simp only [pickL, List.getElem?_cons_succ, List.getElem?_cons_zero]
        go_wp2_with (first
          | ((with_reducible refine wpT_q0 ?_ ?_ ?_ ?_); (focus rfl); (focus rfl); (focus rfl); intro K hK) | ((with_reducible refine wpT_x0 ?_ ?_ ?_); (focus rfl); (focus rfl); intro K hK) | ((with_reducible refine wpT_noL ?_ ?_); (focus (first | exact wanted_no _ _ _ rfl rfl rfl | exact wanted_un _ _ _ rfl rfl rfl)); simp only [setO, List.set_cons_succ, List.set_cons_zero]) | ((with_reducible refine wpT_q1 ?_ ?_ ?_ ?_); (focus exact wanted_yes _ _ _ rfl rfl rfl); (focus rfl); (focus rfl); intro K hK) | ((with_reducible refine wpT_x1 ?_ ?_ ?_); (focus exact wanted_yes _ _ _ rfl rfl rfl); (focus rfl); intro K hK) | ((with_reducible refine wpT_nil ?_); try dsimp only)
          | (go_at_call 80; refine (l2Near_c g.1[k] g.1[i] _ ⟨hek.2.1, hek.2.2.1⟩ ⟨hei.2.1, hei.2.2.1⟩).mono ?_; rintro e w3 ⟨rfl, hb3⟩; have hb23 : Below w2.heap.size w2 w3 := (Below.drew (Below.refl _ _)).trans hb3; have hs3 := hs2.below hb23 hz2; have hg3 := hg2.below hb23 (fun b hb => by have := hD b hb; omega); clear xx0 xx1 xx2 xf0 xf1 xf2 yy0 yy1 yy2 yg0 yg1 yg2; obtain ⟨xx0, xx1, xx2, xf0, xf1, xf2⟩ := hs3.bx.cells; obtain ⟨yy0, yy1, yy2, yg0, yg1, yg2⟩ := hs3.ry.cells)
          | fail)
        refine bodyPost_ret (v := .tuple #[.agg #[.slice (some ⟨b, off, none⟩) n c, .slice B p d, .slice E q f], .int .i64 8]) (by simp [results, Tryd.results79, go_sem, yy0, yy1, yy2, yg0, yg1, yg2]) rfl (GmPost2.fin (x := w.heap.size) (y := w.heap.size + 1) (w9 := w3) (D' := D) 8 (by (repeat (first | (with_reducible exact Onl.refl _ _ _) | (with_reducible exact Onl.drewL _ _ _) | (with_reducible refine Onl.set ?_ (by simp) _) | with_reducible refine Onl.drew ?_))) hs3.bel (Nat.le_refl _) (Nat.le_succ _) hg3 (fun b hb => by have := hD b hb; exact ⟨by omega, by omega, .inl hb⟩))
      · have hyes := hide (show nearE g.1[k] g.1[i] by simpa using e1)
        go_enter Tryd.func79, Tryd.ntmps79
        go_wp2
        generalize ((w.alloc (.cells #[.slice (some ⟨b, off, none⟩) n c, .slice B p d, .slice E q f] 35)).alloc (.cells #[.slice none 0 0, .slice none 0 0, .slice none 0 0] 35)) = w2 at *
        refine wp_region_T (fun _ => True) [] [] [] [0, 1, 2, 3, 4, 5, 6, 7, 8, 9, 10, 11, 12, 13, 14, 15, 16, 17, 18, 19, 20] (by kernel_rfl) (by kernel_rfl) (by kernel_rfl) trivial ?_; simp only [pickL, List.getElem?_cons_succ, List.getElem?_cons_zero]
        go_wp2_with (first
          | ((with_reducible refine wpT_q0 ?_ ?_ ?_ ?_); (focus rfl); (focus rfl); (focus rfl); intro K hK) | ((with_reducible refine wpT_x0 ?_ ?_ ?_); (focus rfl); (focus rfl); intro K hK) | ((with_reducible refine wpT_noL ?_ ?_); (focus (first | exact wanted_no _ _ _ rfl rfl rfl | exact wanted_un _ _ _ rfl rfl rfl)); simp only [setO, List.set_cons_succ, List.set_cons_zero]) | ((with_reducible refine wpT_q1 ?_ ?_ ?_ ?_); (focus exact wanted_yes _ _ _ rfl rfl rfl); (focus rfl); (focus rfl); intro K hK) | ((with_reducible refine wpT_x1 ?_ ?_ ?_); (focus exact wanted_yes _ _ _ rfl rfl rfl); (focus rfl); intro K hK) | ((with_reducible refine wpT_nil ?_); try dsimp only)
          | (go_at_call 80; refine (l2Near_c g.1[k] g.1[i] _ ⟨hek.2.1, hek.2.2.1⟩ ⟨hei.2.1, hei.2.2.1⟩).mono ?_; rintro e w3 ⟨rfl, hb3⟩; have hb23 : Below w2.heap.size w2 w3 := (Below.drew (Below.refl _ _)).trans hb3; have hs3 := hs2.below hb23 hz2; have hg3 := hg2.below hb23 (fun b hb => by have := hD b hb; omega); clear xx0 xx1 xx2 xf0 xf1 xf2 yy0 yy1 yy2 yg0 yg1 yg2; obtain ⟨xx0, xx1, xx2, xf0, xf1, xf2⟩ := hs3.bx.cells; obtain ⟨yy0, yy1, yy2, yg0, yg1, yg2⟩ := hs3.ry.cells; have hz3 := hs3.sz; have hlx3 := hs3.bx.lt; have hly3 := hs3.ry.lt; have hown3 := own_empty encEnt 5 82 w3; have hA3 := (Below.refl w3.heap.size w3).alloc (Nat.le_refl _) (.cells #[] 82); have hsl3 : Hid (Sl encEnt 5 (w3.alloc (.cells #[] 82)) 0 w.heap.size (some ⟨b, off, none⟩) g.1) := hide ((hg3.en.sl hD).below hA3 (by omega)))
          | (at_builtin; refine wpList_app encEnt_len (by omega) encEnt_one rfl _ _ 33 rfl 82 _ 40 Tryd.underlying33 infoEnt rfl w3.heap.size _ [] rfl hown3 0 w.heap.size _ g.1 _ _ rfl hn'.out hsl3.out (by have h1 := hn4.out; have h2 := hn'.out; simp only [List.length_nil, maxLen]; omega) (by simp) ?_)
          | fail)
        intro v4 w4 ho4 hgr4 hb4
        try rw [List.nil_append] at ho4
        obtain ⟨g4, c4, rfl, hg41, hg42, hc41, hc42⟩ := ho4.at0 (by omega)
        rw [← hn'.out] at ho4 hc41 ⊢
        unfold maxLen at hc42
        have hb34 := hA3.trans hb4
        have hs4 := hs3.below hb34 hz3
        have hg4 := hg3.below hb34 (fun b hb => by have := hD b hb; omega)
        have hz4 := hs4.sz
        clear xx0 xx1 xx2 xf0 xf1 xf2 yy0 yy1 yy2 yg0 yg1 yg2 hown3 hA3 hsl3 hgr4 hb4 hs3 hg3 hb3 hb23 hs2 hg2 a0 a1 a2 a3 a4 b0 b1 b2 b3 b4
        obtain ⟨xx0, xx1, xx2, xf0, xf1, xf2⟩ := hs4.bx.cells
        go_wp2
        have hs5 := hs4.set0 (.slice (some ⟨g4, 0, none⟩) n c4)
        have hg5 := hg4.keep (w' := w4.setCell ⟨w.heap.size, 0, none⟩ (.slice (some ⟨g4, 0, none⟩) n c4)) (fun b hb => Below.heap_setCell w4 ⟨w.heap.size, 0, none⟩ _ b (by have := hD b hb; show b ≠ w.heap.size; omega))
        have ho5 := ho4.keep (w' := w4.setCell ⟨w.heap.size, 0, none⟩ (.slice (some ⟨g4, 0, none⟩) n c4)) (fun b hb => Below.heap_setCell w4 ⟨w.heap.size, 0, none⟩ _ b (by simp [Value.ownBlock] at hb; show b ≠ w.heap.size; omega))
        have hz45 : (w4.setCell ⟨w.heap.size, 0, none⟩ (.slice (some ⟨g4, 0, none⟩) n c4)).heap.size = w4.heap.size := by simp
        have hz45' := hide hz45
        clear xx0 xx1 xx2 xf0 xf1 xf2 hs4 hg4 ho4 hz45
        generalize w4.setCell ⟨w.heap.size, 0, none⟩ (.slice (some ⟨g4, 0, none⟩) n c4) = w5 at *
        obtain ⟨xx0, xx1, xx2, xf0, xf1, xf2⟩ := hs5.bx.cells
        obtain ⟨yy0, yy1, yy2, yg0, yg1, yg2⟩ := hs5.ry.cells
        have hg45 : g4 < w5.heap.size := by rw [hz45'.out]; omega
        obtain ⟨d0, d1, d2, d3, d4⟩ := (ho5.slAt encEnt_len).2.2.getEnt hi
        simp only [Nat.zero_add] at d0 d1 d2 d3 d4
        have df := ho5.frozen (i * 5 + 3)
        have ho6 := ho5.put1 encEnt_len hi (hitE g.1[i]) 3 (by omega) (.int .i64 (g.1[i].2.2.2.1 - 1)) rfl
        have hne1 : ¬ w.heap.size = g4 := by omega
        have hne2 : ¬ g4 = w.heap.size := by omega
        have hne3 : ¬ w.heap.size + 1 = g4 := by omega
        have hne4 : ¬ g4 = w.heap.size + 1 := by omega
        have hlw5 : w.heap.size < w5.heap.size := hs5.bx.lt
        have hly5 : w.heap.size + 1 < w5.heap.size := hs5.ry.lt
        have hei4 := hei.2.2.2.1
        unfold rng at hei4
        have hS6 : ∀ b, b ≠ g4 → (w5.setCell ⟨g4, i * 5 + 3, none⟩ (.int .i64 (g.1[i].2.2.2.1 - 1))).heap[b]? = w5.heap[b]? := fun b h => Below.heap_setCell w5 ⟨g4, i * 5 + 3, none⟩ _ b h
        have hs6 := (hs5.other (a := ⟨g4, i * 5 + 3, none⟩) (by show _ ≤ g4; omega) (.int .i64 (g.1[i].2.2.2.1 - 1))).drew
        have hg6 := hg5.keep (w' := (w5.setCell ⟨g4, i * 5 + 3, none⟩ (.int .i64 (g.1[i].2.2.2.1 - 1))).drew) (fun b hb => hS6 b (by have := hD b hb; omega))
        have hz56 : (w5.setCell ⟨g4, i * 5 + 3, none⟩ (.int .i64 (g.1[i].2.2.2.1 - 1))).heap.size = w5.heap.size := by simp
        have ho6' := hide ho6.drew
        have hs6' := hide hs6
        have hg6' := hide hg6
        have hz56' := hide hz56
        clear ho5 hs5 hg5 hs6 hg6 hS6 hz56 ho6
        cases e5 : decide (g.1[i].2.2.2.1 - 1 ≤ 0)
        · have hh := hide (hitG_hit hk hi hikh.out hyes.out (by simpa using e5))
          refine wp_region_T (fun _ => True) [] [] [] [0, 1, 2, 3, 4, 5, 6, 7, 8, 9, 10, 11, 12] (by kernel_rfl) (by kernel_rfl) (by kernel_rfl) trivial ?_; simp only [pickL, List.getElem?_cons_succ, List.getElem?_cons_zero]
          go_wp2_with (first
            | ((with_reducible refine wpT_q0 ?_ ?_ ?_ ?_); (focus rfl); (focus rfl); (focus rfl); intro K hK) | ((with_reducible refine wpT_x0 ?_ ?_ ?_); (focus rfl); (focus rfl); intro K hK) | ((with_reducible refine wpT_noL ?_ ?_); (focus (first | exact wanted_no _ _ _ rfl rfl rfl | exact wanted_un _ _ _ rfl rfl rfl)); simp only [setO, List.set_cons_succ, List.set_cons_zero]) | ((with_reducible refine wpT_q1 ?_ ?_ ?_ ?_); (focus exact wanted_yes _ _ _ rfl rfl rfl); (focus rfl); (focus rfl); intro K hK) | ((with_reducible refine wpT_x1 ?_ ?_ ?_); (focus exact wanted_yes _ _ _ rfl rfl rfl); (focus rfl); intro K hK) | ((with_reducible refine wpT_nil ?_); try dsimp only)
            | fail)
          refine bodyPost_ret (v := .tuple #[.agg #[.slice (some ⟨g4, 0, none⟩) n c4, .slice B p d, .slice E q f], .int .i64 0]) (by simp [results, Tryd.results79, go_sem, yy0, yy1, yy2, yg0, yg1, yg2, hne1, hne2, hne3, hne4]) rfl ?_
          rw [hh.out]
          refine GmPost2.fin (x := w.heap.size) (y := w.heap.size + 1) (w9 := (w5.setCell ⟨g4, i * 5 + 3, none⟩ (.int .i64 (g.1[i].2.2.2.1 - 1))).drew) (D' := fun b => D b ∨ b = g4) 0 (by (repeat (first | (with_reducible exact Onl.refl _ _ _) | (with_reducible exact Onl.drewL _ _ _) | (with_reducible refine Onl.set ?_ (by simp) _) | with_reducible refine Onl.drew ?_))) hs6'.out.bel (Nat.le_refl _) (Nat.le_succ _) ⟨?_, hg6'.out.fl.mono (fun b hb => .inl hb), hg6'.out.la.mono (fun b hb => .inl hb), .inr ⟨g4, 0, rfl⟩⟩ (fun b hb => ?_)
          · exact ho6'.out.rdG encEnt_len (.inr rfl)
          · have := hz56'.out
            rcases hb with hb | hb
            · have := hD b hb; exact ⟨by omega, by omega, .inl hb⟩
            · exact ⟨by omega, by omega, .inr ⟨by omega, by show _ < (w5.setCell ⟨g4, i * 5 + 3, none⟩ (.int .i64 (g.1[i].2.2.2.1 - 1))).heap.size; omega⟩⟩
        · have hh := hide (hitG_drop hk hi hikh.out hyes.out (by simpa using e5))
          have hgd := hide (show GmD (w5.setCell ⟨g4, i * 5 + 3, none⟩ (.int .i64 (g.1[i].2.2.2.1 - 1))).drew (fun b => D b ∨ b = g4) (some ⟨g4, 0, none⟩) n c4 B p d E q f (g.1.set i (hitE g.1[i]), g.2.1, g.2.2) from ⟨ho6'.out.rdG encEnt_len (.inr rfl), hg6'.out.fl.mono (fun b hb => .inl hb), hg6'.out.la.mono (fun b hb => .inl hb), .inr ⟨g4, 0, rfl⟩⟩)
          have hDD := hide (show ∀ b, (D b ∨ b = g4) → b < (w5.setCell ⟨g4, i * 5 + 3, none⟩ (.int .i64 (g.1[i].2.2.2.1 - 1))).drew.heap.size from fun b hb => by
            have := hz56'.out
            rcases hb with hb | hb
            · have := hD b hb; show b < (w5.setCell ⟨g4, i * 5 + 3, none⟩ (.int .i64 (g.1[i].2.2.2.1 - 1))).heap.size; omega
            · show b < (w5.setCell ⟨g4, i * 5 + 3, none⟩ (.int .i64 (g.1[i].2.2.2.1 - 1))).heap.size; omega)
          have hokd := hide (hok'.out.toD.setE hi (e := hitE g.1[i]) rfl ⟨hei.2.1, hei.2.2.1, hok'.out.gold hi⟩)
          have hge : Hid ((g.1.set i (hitE g.1[i]))[i]'(by simpa using hi) = hitE g.1[i]) := hide (by simp)
          refine wp_region_T (fun _ => True) [] [] [] [0, 1, 2, 3, 4, 5, 6, 7, 8, 9, 10, 11, 12] (by kernel_rfl) (by kernel_rfl) (by kernel_rfl) trivial ?_; simp only [pickL, List.getElem?_cons_succ, List.getElem?_cons_zero]
          go_wp2_with (first
            | ((with_reducible refine wpT_q0 ?_ ?_ ?_ ?_); (focus rfl); (focus rfl); (focus rfl); intro K hK) | ((with_reducible refine wpT_x0 ?_ ?_ ?_); (focus rfl); (focus rfl); intro K hK) | ((with_reducible refine wpT_noL ?_ ?_); (focus (first | exact wanted_no _ _ _ rfl rfl rfl | exact wanted_un _ _ _ rfl rfl rfl)); simp only [setO, List.set_cons_succ, List.set_cons_zero]) | ((with_reducible refine wpT_q1 ?_ ?_ ?_ ?_); (focus exact wanted_yes _ _ _ rfl rfl rfl); (focus rfl); (focus rfl); intro K hK) | ((with_reducible refine wpT_x1 ?_ ?_ ?_); (focus exact wanted_yes _ _ _ rfl rfl rfl); (focus rfl); intro K hK) | ((with_reducible refine wpT_nil ?_); try dsimp only)
            | fail)
          refine (l2Drop_c (some ⟨g4, 0, none⟩) n c4 B p d E q f (fun b => D b ∨ b = g4) (g.1.set i (hitE g.1[i]), g.2.1, g.2.2) i _ hgd.out hDD.out hokd.out (by simpa using hi)).mono ?_
          rintro e w7 ⟨A7, n7, c7, B7, p7, d7, E7, q7, f7, rfl, hg7, hb7⟩
          have hs7 := hs6'.out.below hb7 (hs6'.out.sz)
          clear xx0 xx1 xx2 xf0 xf1 xf2 yy0 yy1 yy2 yg0 yg1 yg2 d0 d1 d2 d3 d4 df
          obtain ⟨xx0, xx1, xx2, xf0, xf1, xf2⟩ := hs7.bx.cells
          obtain ⟨yy0, yy1, yy2, yg0, yg1, yg2⟩ := hs7.ry.cells
          have hlx7 := hs7.bx.lt
          have hly7 := hs7.ry.lt
          go_wp2
          refine bodyPost_ret (v := .tuple #[.agg #[.slice A7 n7 c7, .slice B7 p7 d7, .slice E7 q7 f7], .int .i64 0]) (by simp [results, Tryd.results79, go_sem, yy0, yy1, yy2, yg0, yg1, yg2]) rfl ?_
          rw [hh.out]
          try dsimp only at hg7
          rw [erase_set, hge.out] at hg7
          refine GmPost2.fin (x := w.heap.size) (y := w.heap.size + 1) (w9 := w7) (D' := Dn (fun b => D b ∨ b = g4) (w5.setCell ⟨g4, i * 5 + 3, none⟩ (.int .i64 (g.1[i].2.2.2.1 - 1))).drew w7) 0 (by (repeat (first | (with_reducible exact Onl.refl _ _ _) | (with_reducible exact Onl.drewL _ _ _) | (with_reducible refine Onl.set ?_ (by simp) _) | with_reducible refine Onl.drew ?_))) hs7.bel (Nat.le_refl _) (Nat.le_succ _) hg7 (fun b hb => ?_)
          have h9 := hs6'.out.sz
          have h10 := hs7.sz
          have h11 := hb7.size
          have h12 := hDD.out
          rcases hb with (hb | hb) | hb
          · have := hD b hb; exact ⟨by omega, by omega, .inl hb⟩
          · have := h12 b (.inr hb); exact ⟨by omega, by omega, .inr ⟨by omega, by omega⟩⟩
          · exact ⟨by omega, by omega, .inr ⟨by omega, by omega⟩⟩
end Go.Proofs.YtajmfonepnkofaaDoor
