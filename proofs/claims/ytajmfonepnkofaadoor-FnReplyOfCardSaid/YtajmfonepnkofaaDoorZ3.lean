/-
  What 'IP' rests on, part 3 of 11 (texts of this seat put together: HC HD RegB).
  Conditions: none.
-/
import Derived.Test.YtajmfonepnkofaaDoorZ2
namespace Go.Proofs.YtajmfonepnkofaaDoor
open Go.RowKit Rg
set_option linter.unusedVariables false
set_option linter.unusedSimpArgs false

/-- Blocks of D, and those laid since. -/
def Dn (D : Nat → Prop) (w w' : World) (b : Nat) : Prop := D b ∨ w.heap.size ≤ b ∧ b < w'.heap.size
/-- A game whose figures are on the board and whose gold is in bounds. -/
structure okD (g : GameT) : Prop where
  ent : ∀ e ∈ g.1, rng e.1 1 4 ∧ rng e.2.1 0 3 ∧ rng e.2.2.1 0 3 ∧ rng e.2.2.2.2 0 20
  inc : (g.1.map (·.1)).Pairwise (· < ·)
  flo : ∀ x ∈ g.2.1, rng x 0 20
  n16 : g.2.1.length = 16
theorem okG'.toD {g : GameT} (h : okG' g) : okD g := ⟨fun e he => by obtain ⟨a, b, c, d, f⟩ := (okG'.full h).ent e he; exact ⟨a, b, c, f⟩, h.inc, (okG'.full h).flo, h.n16⟩
theorem okD.gold {g : GameT} (h : okD g) {k : Nat} (hk : k < g.1.length) : 0 ≤ g.1[k].2.2.2.2 ∧ g.1[k].2.2.2.2 ≤ 20 := (h.ent _ (List.getElem_mem hk)).2.2.2
theorem okD.floor {g : GameT} (h : okD g) {k : Nat} (hk : k < g.2.1.length) : 0 ≤ g.2.1[k] ∧ g.2.1[k] ≤ 20 := h.flo _ (List.getElem_mem hk)
/-- What a step of the reference's game leaves: a game in new memory or where it was. -/
def GmPost (w : World) (D : Nat → Prop) (g : GameT) (e : Ending) (w' : World) : Prop := ∃ (A : Option Addr) (n c : Nat) (B : Option Addr) (p d : Nat) (E : Option Addr) (q f : Nat),
  e = .returned (.agg #[.slice A n c, .slice B p d, .slice E q f]) ∧ GmD w' (Dn D w w') A n c B p d E q f g ∧ Below w.heap.size w w'
theorem okG'.gold {g : GameT} (h : okG' g) {k : Nat} (hk : k < g.1.length) : 0 ≤ g.1[k].2.2.2.2 ∧ g.1[k].2.2.2.2 ≤ 20 := by
  have h2 := (okG'.full h).ent _ (List.getElem_mem hk)
  exact h2.2.2.2.2
theorem okG'.floor {g : GameT} (h : okG' g) {k : Nat} (hk : k < g.2.1.length) : 0 ≤ g.2.1[k] ∧ g.2.1[k] ≤ 20 := (okG'.full h).flo _ (List.getElem_mem hk)
theorem getD_at {α : Type} {l : List α} {k : Nat} (hk : k < l.length) (z : α) : l.getD k z = l[k] := by simp [List.getD, List.getElem?_eq_getElem hk]
theorem inc_len : ∀ {es : List EntT}, (es.map (·.1)).Pairwise (· < ·) → (∀ e ∈ es, rng e.1 1 4) → es.length ≤ 4 := by
  intro es h1 h2
  have key : ∀ (l : List Int) (a : Int), l.Pairwise (· < ·) → (∀ x ∈ l, a < x ∧ x ≤ 4) → (l.length : Int) ≤ 4 - a ∨ l = [] := by
    intro l
    induction l with
    | nil => intro a _ _; exact .inr rfl
    | cons x l ih =>
      intro a hp hx
      rw [List.pairwise_cons] at hp
      have h3 := hx x (by simp)
      rcases ih x hp.2 (fun y hy => ⟨hp.1 y hy, (hx y (by simp [hy])).2⟩) with h | h
      · left; simp only [List.length_cons]; omega
      · left; subst h; simp only [List.length_cons, List.length_nil]; omega
  rcases key (es.map (·.1)) 0 h1 (fun x hx => by
    obtain ⟨e, he, rfl⟩ := List.mem_map.1 hx
    have := h2 e he
    unfold rng at this
    exact ⟨by omega, by omega⟩) with h | h
  · simp only [List.length_map] at h; omega
  · have := congrArg List.length h
    simp at this
    simp [this]
theorem Own.shape {α : Type} {enc : α → List Value} {sz lo : Nat} {e : TypeId} {w : World} {v : Value} {xs : List α} (h : Own enc sz e w lo v xs) : ∃ A n c, v = .slice A n c ∧ Hid (n = xs.length) := by
  obtain ⟨A, c, h1, _⟩ := h.form
  exact ⟨A, _, c, h1, rfl⟩
theorem fin4 (w9 : World) (b0 : Nat) (u v0 v1 v2 : Value) : (∀ b, b ≠ b0 → b ≠ b0 + 1 → ((((w9.setCell ⟨b0, 0, none⟩ u).setCell ⟨b0 + 1, 0, none⟩ v0).setCell ⟨b0 + 1, 1, none⟩ v1).setCell ⟨b0 + 1, 2, none⟩ v2).heap[b]? = w9.heap[b]?) ∧
    ((((w9.setCell ⟨b0, 0, none⟩ u).setCell ⟨b0 + 1, 0, none⟩ v0).setCell ⟨b0 + 1, 1, none⟩ v1).setCell ⟨b0 + 1, 2, none⟩ v2).heap.size = w9.heap.size ∧
    (∀ (a : World), Below b0 a w9 → Below b0 a ((((w9.setCell ⟨b0, 0, none⟩ u).setCell ⟨b0 + 1, 0, none⟩ v0).setCell ⟨b0 + 1, 1, none⟩ v1).setCell ⟨b0 + 1, 2, none⟩ v2)) := by
  refine ⟨fun b h1 h2 => ?_, by simp, fun a h => ?_⟩
  · exact (Below.heap_setCell _ ⟨b0 + 1, 2, none⟩ _ b h2).trans ((Below.heap_setCell _ ⟨b0 + 1, 1, none⟩ _ b h2).trans ((Below.heap_setCell _ ⟨b0 + 1, 0, none⟩ _ b h2).trans (Below.heap_setCell _ ⟨b0, 0, none⟩ _ b h1)))
  · exact (((h.setCell (p := ⟨b0, 0, none⟩) (Nat.le_refl _) _).setCell (p := ⟨b0 + 1, 0, none⟩) (Nat.le_succ _) _).setCell (p := ⟨b0 + 1, 1, none⟩) (Nat.le_succ _) _).setCell (p := ⟨b0 + 1, 2, none⟩) (Nat.le_succ _) _
theorem sl_take_drop {α : Type} (l : List α) (k : Nat) : l.take k ++ l.drop (k + 1) = l.eraseIdx k := (List.eraseIdx_eq_take_drop_succ l k).symm

set_option maxRecDepth 100000 in
set_option maxHeartbeats 2000000 in
theorem l2Drop_c (A : Option Addr) (n c : Nat) (B : Option Addr) (p d : Nat) (E : Option Addr) (q f : Nat) (D : Nat → Prop) (g : GameT) (k : Nat) (w : World) (hg : GmD w D A n c B p d E q f g) (hD : ∀ b, D b → b < w.heap.size) (hok : okD g) (hk : k < g.1.length) :
    Calls Tryd.prog 96 #[.agg #[.slice A n c, .slice B p d, .slice E q f], .int .i64 (k : Int)] w fun e w' => GmPost w D (g.1.eraseIdx k, g.2.1.set (sqr g.1[k]) (g.2.1.getD (sqr g.1[k]) 0 + g.1[k].2.2.2.2), g.2.2) e w' := by
  have hsl : sqr g.1[k] < g.2.1.length := by
    have hent := hok.ent _ (List.getElem_mem hk)
    have h16 := hok.n16
    obtain ⟨_, ⟨hx0, hx1⟩, ⟨hy0, hy1⟩, _⟩ := hent
    unfold sqr; omega
  obtain ⟨b, off, rfl, hlo1⟩ := hg.en.addr hk
  obtain ⟨bB, offB, rfl, hloB⟩ := hg.fl.addr hsl
  obtain rfl : p = 16 := by have h1 := hg.fl.len; have h2 := hok.n16; omega
  have hbw : b < w.heap.size := hD b hlo1
  have hb3 : Below w.heap.size w (((w.alloc (.cells #[.slice (some ⟨b, off, none⟩) n c, .slice (some ⟨bB, offB, none⟩) 16 d, .slice E q f] 35)).alloc (.cells #[.slice none 0 0, .slice none 0 0, .slice none 0 0] 35)).alloc (.cells #[.int .i64 g.1[k].1, .int .i64 g.1[k].2.1, .int .i64 g.1[k].2.2.1, .int .i64 g.1[k].2.2.2.1, .int .i64 g.1[k].2.2.2.2] 82)) := (((Below.refl w.heap.size w).alloc (Nat.le_refl _) _).alloc (by simp) _).alloc (by simp; omega) _
  have hg3 := hg.below hb3 hD
  have hs3 : ((((w.alloc (.cells #[.slice (some ⟨b, off, none⟩) n c, .slice (some ⟨bB, offB, none⟩) 16 d, .slice E q f] 35)).alloc (.cells #[.slice none 0 0, .slice none 0 0, .slice none 0 0] 35)).alloc (.cells #[.int .i64 g.1[k].1, .int .i64 g.1[k].2.1, .int .i64 g.1[k].2.2.1, .int .i64 g.1[k].2.2.2.1, .int .i64 g.1[k].2.2.2.2] 82))).heap.size = w.heap.size + 1 + 1 + 1 := by simp
  have hx3 : Bx3 ((((w.alloc (.cells #[.slice (some ⟨b, off, none⟩) n c, .slice (some ⟨bB, offB, none⟩) 16 d, .slice E q f] 35)).alloc (.cells #[.slice none 0 0, .slice none 0 0, .slice none 0 0] 35)).alloc (.cells #[.int .i64 g.1[k].1, .int .i64 g.1[k].2.1, .int .i64 g.1[k].2.2.1, .int .i64 g.1[k].2.2.2.1, .int .i64 g.1[k].2.2.2.2] 82))) w.heap.size (.slice (some ⟨b, off, none⟩) n c) (.slice (some ⟨bB, offB, none⟩) 16 d) (.slice E q f) 35 := by
    have h1 := Bx3.made w (.slice (some ⟨b, off, none⟩) n c) (.slice (some ⟨bB, offB, none⟩) 16 d) (.slice E q f) 35
    have h2 := h1.below ((Below.refl _ _).alloc (Nat.le_refl _) (.cells #[.slice none 0 0, .slice none 0 0, .slice none 0 0] 35)) h1.lt
    exact h2.below ((Below.refl _ _).alloc (Nat.le_refl _) _) h2.lt
  have hy3 : Bx3 ((((w.alloc (.cells #[.slice (some ⟨b, off, none⟩) n c, .slice (some ⟨bB, offB, none⟩) 16 d, .slice E q f] 35)).alloc (.cells #[.slice none 0 0, .slice none 0 0, .slice none 0 0] 35)).alloc (.cells #[.int .i64 g.1[k].1, .int .i64 g.1[k].2.1, .int .i64 g.1[k].2.2.1, .int .i64 g.1[k].2.2.2.1, .int .i64 g.1[k].2.2.2.2] 82))) (w.heap.size + 1) (.slice none 0 0) (.slice none 0 0) (.slice none 0 0) 35 := by
    have h1 := Bx3.made (w.alloc (.cells #[.slice (some ⟨b, off, none⟩) n c, .slice (some ⟨bB, offB, none⟩) 16 d, .slice E q f] 35)) (.slice none 0 0) (.slice none 0 0) (.slice none 0 0) 35
    have h2 := h1.below ((Below.refl _ _).alloc (Nat.le_refl _) (.cells #[.int .i64 g.1[k].1, .int .i64 g.1[k].2.1, .int .i64 g.1[k].2.2.1, .int .i64 g.1[k].2.2.2.1, .int .i64 g.1[k].2.2.2.2] 82)) h1.lt
    simpa only [World.size_alloc] using h2
  have z4 : ((((w.alloc (.cells #[.slice (some ⟨b, off, none⟩) n c, .slice (some ⟨bB, offB, none⟩) 16 d, .slice E q f] 35)).alloc (.cells #[.slice none 0 0, .slice none 0 0, .slice none 0 0] 35)).alloc (.cells #[.int .i64 g.1[k].1, .int .i64 g.1[k].2.1, .int .i64 g.1[k].2.2.1, .int .i64 g.1[k].2.2.2.1, .int .i64 g.1[k].2.2.2.2] 82))).cell? ⟨w.heap.size + 1 + 1, 4, none⟩ = some (.int .i64 g.1[k].2.2.2.2) := by
    have := World.cell?_alloc_new ((w.alloc (.cells #[.slice (some ⟨b, off, none⟩) n c, .slice (some ⟨bB, offB, none⟩) 16 d, .slice E q f] 35)).alloc (.cells #[.slice none 0 0, .slice none 0 0, .slice none 0 0] 35)) #[.int .i64 g.1[k].1, .int .i64 g.1[k].2.1, .int .i64 g.1[k].2.2.1, .int .i64 g.1[k].2.2.2.1, .int .i64 g.1[k].2.2.2.2] 82 4
    simp only [World.size_alloc] at this
    exact this
  have hn' := hide hg.en.len
  have hp' := hide hg.fl.len
  have hc1 := hg.en.cap
  have hc2 := hg.en.max
  have hc3 := hg.fl.cap
  have hc4 := hg.fl.max
  have hc5 := hg.la.cap
  have hc6 := hg.la.max
  have hc26 := hide hc4
  unfold maxLen at hc2 hc4 hc6
  have hent := hok.ent _ (List.getElem_mem hk)
  obtain ⟨_, ⟨hx0, hx1⟩, ⟨hy0, hy1⟩, _⟩ := hent
  have hgold := hok.gold hk
  have h16 := hide hok.n16
  have hsq : (sqr g.1[k] : Int) = g.1[k].2.2.1 * 4 + g.1[k].2.1 := by unfold sqr; omega
  have hfl := hok.floor hsl
  have hd := hide (getD_at hsl (0 : Int))
  have hkn : k < n := by have := hn'.out; omega
  have hsq16 : sqr g.1[k] < 16 := by have := h16.out; omega
  obtain ⟨a0, a1, a2, a3, a4⟩ := hg.en.ent hk
  have hown : Own encI 1 3 (((((w.alloc (.cells #[.slice (some ⟨b, off, none⟩) n c, .slice (some ⟨bB, offB, none⟩) 16 d, .slice E q f] 35)).alloc (.cells #[.slice none 0 0, .slice none 0 0, .slice none 0 0] 35)).alloc (.cells #[.int .i64 g.1[k].1, .int .i64 g.1[k].2.1, .int .i64 g.1[k].2.2.1, .int .i64 g.1[k].2.2.2.1, .int .i64 g.1[k].2.2.2.2] 82))).alloc (.cells #[] 3)) (w.heap.size + 1 + 1 + 1) (.slice (some ⟨w.heap.size + 1 + 1 + 1, 0, none⟩) 0 0) [] := by
    have := own_empty encI 1 3 (((w.alloc (.cells #[.slice (some ⟨b, off, none⟩) n c, .slice (some ⟨bB, offB, none⟩) 16 d, .slice E q f] 35)).alloc (.cells #[.slice none 0 0, .slice none 0 0, .slice none 0 0] 35)).alloc (.cells #[.int .i64 g.1[k].1, .int .i64 g.1[k].2.1, .int .i64 g.1[k].2.2.1, .int .i64 g.1[k].2.2.2.1, .int .i64 g.1[k].2.2.2.2] 82))
    simpa only [World.size_alloc] using this
  obtain ⟨xx0, xx1, xx2, xf0, xf1, xf2⟩ := hx3.cells
  have hok' := hide hok
  clear hok
  have hsqi : g.1[k].2.2.1 * 4 + g.1[k].2.1 = (sqr g.1[k] : Int) := hsq.symm
  clear hsq
  generalize hsqe : sqr g.1[k] = sq at *
  have hsqe' := hide hsqe
  clear hsqe
  go_enter Tryd.func96, Tryd.ntmps96
  go_wp2_with (first
    | (at_builtin; generalize (((w.alloc (.cells #[.slice (some ⟨b, off, none⟩) n c, .slice (some ⟨bB, offB, none⟩) 16 d, .slice E q f] 35)).alloc (.cells #[.slice none 0 0, .slice none 0 0, .slice none 0 0] 35)).alloc (.cells #[.int .i64 g.1[k].1, .int .i64 g.1[k].2.1, .int .i64 g.1[k].2.2.1, .int .i64 g.1[k].2.2.2.1, .int .i64 g.1[k].2.2.2.2] 82)) = w3 at *; refine wpList_app encI_len (by omega) encI_one rfl _ _ 23 rfl 3 _ 8 Tryd.underlying23 infoI rfl (w.heap.size + 1 + 1 + 1) _ [] rfl hown 0 w.heap.size _ g.2.1 _ _ rfl hp'.out ?h1 ?h2 ?h3 ?_)
    | fail)
  case h1 => exact (hg3.fl.sl hD).below ((Below.refl w.heap.size w3).alloc (by omega) _) (Nat.le_refl _)
  case h2 => have := h16.out; simp [maxLen]; omega
  case h3 => simp; omega
  intro v4 w4 ho4 hg4 hb4
  try rw [List.nil_append] at ho4
  obtain ⟨A4, c4, hv4, hcc1, hcc2, _⟩ := ho4.form
  rw [← hp'.out] at hv4 hcc1
  subst hv4
  obtain ⟨g4, rfl, hg41, hg42⟩ := ho4.addrAt (k := 0) (by omega)
  unfold maxLen at hcc2
  have hb34 : Below (w.heap.size + 1 + 1 + 1) w3 w4 := ((Below.refl _ _).alloc (by omega) _).trans hb4
  have hx4 := hx3.below hb34 (by omega)
  have hy4 := hy3.below hb34 (by omega)
  have z4' : w4.cell? ⟨w.heap.size + 1 + 1, 4, none⟩ = some (.int .i64 g.1[k].2.2.2.2) := (World.cell?_of_block (hb34.block _ (by show w.heap.size + 1 + 1 < _; omega))).trans z4
  have hg4' := hg3.below (K := w.heap.size + 1 + 1 + 1) hb34 (fun b hb => by have := hD b hb; omega)
  have hB4 := hb3.trans (hb34.mono (by omega))
  have hs34 := hb34.size
  clear z4 hown xx0 xx1 xx2 xf0 xf1 xf2 hg3 hx3 hy3 hg4 hb4 hb3 hb34
  obtain ⟨xx0, xx1, xx2, xf0, xf1, xf2⟩ := hx4.cells
  go_wp2
  have hS5 : ∀ b, b ≠ w.heap.size → (w4.setCell ⟨w.heap.size, 1, none⟩ (.slice (some ⟨g4, 0, none⟩) 16 c4)).heap[b]? = w4.heap[b]? := fun b h => Below.heap_setCell w4 ⟨w.heap.size, 1, none⟩ _ b h
  have hx5 := hx4.set1 (.slice (some ⟨g4, 0, none⟩) 16 c4)
  have hy5 := hy4.keep (hS5 _ (by omega))
  have z5 := (World.cell?_of_block (a := ⟨w.heap.size + 1 + 1, 4, none⟩) (hS5 (w.heap.size + 1 + 1) (by omega))).trans z4'
  have hg5 := hg4'.keep (fun b hb => hS5 b (by have := hD b hb; omega))
  have ho5 := ho4.keep (fun b hb => hS5 b (by simp [Value.ownBlock] at hb; omega))
  have hB5 := hB4.setCell (p := ⟨w.heap.size, 1, none⟩) (Nat.le_refl _) (.slice (some ⟨g4, 0, none⟩) 16 c4)
  have hs45 : (w4.setCell ⟨w.heap.size, 1, none⟩ (.slice (some ⟨g4, 0, none⟩) 16 c4)).heap.size = w4.heap.size := by simp
  have hs45' := hide hs45
  clear xx0 xx1 xx2 xf0 xf1 xf2 hx4 hy4 z4' hg4' ho4 hB4 hS5 hs45
  generalize w4.setCell ⟨w.heap.size, 1, none⟩ (.slice (some ⟨g4, 0, none⟩) 16 c4) = w5 at *
  have hs5 : w.heap.size + 1 + 1 + 1 ≤ w5.heap.size := by rw [hs45'.out]; omega
  have hg45 : g4 < w5.heap.size := by rw [hs45'.out]; omega
  obtain ⟨xx0, xx1, xx2, xf0, xf1, xf2⟩ := hx5.cells
  have hq0 := (ho5.slAt encI_len).2.2.i64 hsl
  simp only [Nat.zero_add] at hq0
  have hf0 := ho5.frozen sq
  have hput := ho5.put_ encI_len (i := sq) (by omega) (g.2.1[sq] + g.1[k].2.2.2.2)
  rw [Nat.mul_one] at hput
  have ho6 : Own encI 1 3 (w5.setCell ⟨g4, sq, none⟩ (.int .i64 (g.2.1[sq] + g.1[k].2.2.2.2))) (w.heap.size + 1 + 1 + 1) (.slice (some ⟨g4, 0, none⟩) 16 c4) (g.2.1.set sq (g.2.1[sq] + g.1[k].2.2.2.2)) := hput
  have hS6 : ∀ b, b ≠ g4 → (w5.setCell ⟨g4, sq, none⟩ (.int .i64 (g.2.1[sq] + g.1[k].2.2.2.2))).heap[b]? = w5.heap[b]? := fun b h => Below.heap_setCell w5 ⟨g4, sq, none⟩ _ b h
  have hg6 := hg5.keep (fun b hb => hS6 b (by have := hD b hb; omega))
  have hx6 := hx5.keep (hS6 _ (by omega))
  have hy6 := hy5.keep (hS6 _ (by omega))
  have hB6 : Below w.heap.size w (w5.setCell ⟨g4, sq, none⟩ (.int .i64 (g.2.1[sq] + g.1[k].2.2.2.2))) := hB5.setCell (p := ⟨g4, sq, none⟩) (by show w.heap.size ≤ g4; omega) _
  have hs6 : (w5.setCell ⟨g4, sq, none⟩ (.int .i64 (g.2.1[sq] + g.1[k].2.2.2.2))).heap.size = w5.heap.size := by simp
  have hA6 := ((Below.refl (w5.setCell ⟨g4, sq, none⟩ (.int .i64 (g.2.1[sq] + g.1[k].2.2.2.2))).heap.size (w5.setCell ⟨g4, sq, none⟩ (.int .i64 (g.2.1[sq] + g.1[k].2.2.2.2)))).alloc (Nat.le_refl _) (.cells #[] 82)).drew
  have hown6 : Own encEnt 5 82 (((w5.setCell ⟨g4, sq, none⟩ (.int .i64 (g.2.1[sq] + g.1[k].2.2.2.2))).alloc (.cells #[] 82)).drew) w5.heap.size (.slice (some ⟨w5.heap.size, 0, none⟩) 0 0) [] := by
    have := own_empty encEnt 5 82 (w5.setCell ⟨g4, sq, none⟩ (.int .i64 (g.2.1[sq] + g.1[k].2.2.2.2)))
    rw [hs6] at this
    exact this
  have hsl6 : Sl encEnt 5 (((w5.setCell ⟨g4, sq, none⟩ (.int .i64 (g.2.1[sq] + g.1[k].2.2.2.2))).alloc (.cells #[] 82)).drew) 0 w.heap.size (some ⟨b, off, none⟩) (g.1.take k) := (((hg6.en.sl hD).take_ k).below hA6 (by rw [hs6]; omega))
  have hx6' := hx6.below hA6 (by rw [hs6]; omega)
  have hy6' := hy6.below hA6 (by rw [hs6]; omega)
  have hg6' := hg6.below hA6 (fun b hb => by have := hD b hb; rw [hs6]; omega)
  have ho6' := ho6.below hA6 (Nat.le_refl _)
  have hB6' := hB6.trans (hA6.mono (by rw [hs6]; omega))
  have hz6' : w5.heap.size + 1 = (((w5.setCell ⟨g4, sq, none⟩ (.int .i64 (g.2.1[sq] + g.1[k].2.2.2.2))).alloc (.cells #[] 82)).drew).heap.size := by simp
  have hkl : k = (g.1.take k).length := by simp; omega
  have hkl' := hide hkl
  have hlk : Hid ((g.1.take k).length = k) := hide hkl.symm
  have hn17 : n ≤ 1048576 := by
    have h1 := hok'.out.ent
    have h2 := hok'.out.inc
    have h3 := inc_len h2 (fun e he => (h1 e he).1)
    have := hn'.out
    omega
  clear hkl hput ho6 hg6 hx6 hy6 hB6 hA6 hS6 hx5 hy5 hg5 ho5
  have hlw : w.heap.size < w5.heap.size := by omega
  have hly : w.heap.size + 1 < w5.heap.size := by omega
  have hne1 : ¬ w.heap.size = g4 := by omega
  have hne2 : ¬ g4 = w.heap.size := by omega
  have hne3 : ¬ w.heap.size + 1 = g4 := by omega
  have hne4 : ¬ g4 = w.heap.size + 1 := by omega
  have hdl : Hid ((g.1.drop (k + 1)).length = n - (k + 1)) := hide (by rw [List.length_drop, hn'.out])
  by_cases hck : c = k + 1
  · subst hck
    obtain rfl : n = k + 1 := by omega
    have hdn : Hid (g.1.drop (k + 1) = []) := hide (List.eq_nil_of_length_eq_zero (by rw [hdl.out]; omega))
    refine wp_region_T (fun _ => True) [] [] [] [0, 1, 2, 3, 4, 5, 6, 7, 8, 9, 10, 11, 12] (by kernel_rfl) (by kernel_rfl) (by kernel_rfl) trivial ?_; simp only [pickL, List.getElem?_cons_succ, List.getElem?_cons_zero]
    go_wp2_with (first
      | ((with_reducible refine wpT_q0 ?_ ?_ ?_ ?_); (focus rfl); (focus rfl); (focus rfl); intro K hK) | ((with_reducible refine wpT_x0 ?_ ?_ ?_); (focus rfl); (focus rfl); intro K hK) | ((with_reducible refine wpT_noL ?_ ?_); (focus (first | exact wanted_no _ _ _ rfl rfl rfl | exact wanted_un _ _ _ rfl rfl rfl)); simp only [setO, List.set_cons_succ, List.set_cons_zero]) | ((with_reducible refine wpT_q1 ?_ ?_ ?_ ?_); (focus exact wanted_yes _ _ _ rfl rfl rfl); (focus rfl); (focus rfl); intro K hK) | ((with_reducible refine wpT_x1 ?_ ?_ ?_); (focus exact wanted_yes _ _ _ rfl rfl rfl); (focus rfl); intro K hK) | ((with_reducible refine wpT_nil ?_); try dsimp only)
      | (at_builtin; generalize ((w5.setCell ⟨g4, sq, none⟩ (.int .i64 (g.2.1[sq] + g.1[k].2.2.2.2))).alloc (.cells #[] 82)).drew = w6 at *; refine wpList_app encEnt_len (by omega) encEnt_one rfl _ _ 33 rfl 82 _ 40 Tryd.underlying33 infoEnt rfl w5.heap.size _ [] rfl hown6 0 w.heap.size _ (g.1.take k) _ _ rfl hkl'.out hsl6 ?h2 ?h3 ?_)
      | fail)
    case h2 => have := hlk.out; simp [maxLen]; omega
    case h3 => omega
    intro v7 w7 ho7 hg7 hb7
    try rw [List.nil_append] at ho7
    obtain ⟨A7, c7, hv7, hc71, hc72, _⟩ := ho7.form
    rw [hlk.out] at hv7 hc71
    subst hv7
    unfold maxLen at hc72
    have hx7 := hx6'.below hb7 (by omega)
    have hy7 := hy6'.below hb7 (by omega)
    have hg7' := hg6'.below hb7 (fun b hb => by have := hD b hb; omega)
    have ho67 := ho6'.keep (fun b hb => hb7.block b (by simp [Value.ownBlock] at hb; omega))
    have hs67 := hb7.size
    have hB7 := hB6'.trans (hb7.mono (by omega))
    obtain ⟨yx0, yx1, yx2, yf0, yf1, yf2⟩ := hx7.cells
    obtain ⟨yy0, yy1, yy2, yg0, yg1, yg2⟩ := hy7.cells
    have hlw7 := hx7.lt
    have hly7 := hy7.lt
    have hsl7 : Hid (Sl encEnt 5 w7 0 w.heap.size (some ⟨b, off, none⟩) (g.1.drop (k + 1))) := hide (by rw [hdn.out]; exact Sl.nil_)
    have hdm := hide hdl.out.symm
    clear xx0 xx1 xx2 xf0 xf1 xf2 hx6' hy6' hg6' ho6' hB6' hown6 hsl6 hg7 hb7
    go_wp2_with (first
      | (at_builtin; refine wpList_app encEnt_len (by omega) encEnt_one rfl _ _ 33 rfl 82 _ 40 Tryd.underlying33 infoEnt rfl w5.heap.size _ (g.1.take k) rfl ho7 0 w.heap.size _ (g.1.drop (k + 1)) _ _ rfl (by have := hdm.out; omega) hsl7.out ?h4 ?h5 ?_)
      | fail)
    case h4 => have h1 := hlk.out; have h2 := hdm.out; rw [h1, ← h2]; simp [maxLen]; omega
    case h5 => omega
    intro v9 w9 ho9 hg9 hb9
    rw [sl_take_drop] at ho9
    obtain ⟨A9, n9, c9, rfl, hn9⟩ := ho9.shape
    have hcap9 := ho9.cap
    have hx9 := hx7.below hb9 (by omega)
    have hy9 := hy7.below hb9 (by omega)
    have hg9' := hg7'.below hb9 (fun b hb => by have := hD b hb; omega)
    have ho69 := ho67.keep (fun b hb => hb9.block b (by simp [Value.ownBlock] at hb; omega))
    have hs79 := hb9.size
    have hB9 := hB7.trans (hb9.mono (by omega))
    clear yx0 yx1 yx2 yf0 yf1 yf2 yy0 yy1 yy2 yg0 yg1 yg2
    obtain ⟨yx0, yx1, yx2, yf0, yf1, yf2⟩ := hx9.cells
    obtain ⟨yy0, yy1, yy2, yg0, yg1, yg2⟩ := hy9.cells
    have hF := hide (fin4 w9 w.heap.size (.slice A9 n9 c9) (.slice A9 n9 c9) (.slice (some ⟨g4, 0, none⟩) 16 c4) (.slice E q f))
    have ho9' := hide ho9
    have ho69' := hide ho69
    have hg9h := hide hg9'
    have hB9' := hide hB9
    have hown9 := hide (fun k hk => (ho9.lt k hk).1)
    clear ho9 ho69 hg9' hB9 hx9 hy9 hx7 hy7 hg7' ho67 hB7 hg9 hb9 ho7
    go_wp2
    refine bodyPost_ret (v := .agg #[.slice A9 n9 c9, .slice (some ⟨g4, 0, none⟩) 16 c4, .slice E q f]) (by simp [results, Tryd.results96, go_sem, yy0, yy1, yy2, yg0, yg1, yg2]) rfl ⟨A9, n9, c9, some ⟨g4, 0, none⟩, 16, c4, E, q, f, rfl, ⟨?_, ?_, ?_, ho9'.out.ad⟩, hF.out.2.2 w hB9'.out⟩
    · have h1 := ho9'.out.keep (w' := ((((w9.setCell ⟨w.heap.size, 0, none⟩ (.slice A9 n9 c9)).setCell ⟨w.heap.size + 1, 0, none⟩ (.slice A9 n9 c9)).setCell ⟨w.heap.size + 1, 1, none⟩ (.slice (some ⟨g4, 0, none⟩) 16 c4)).setCell ⟨w.heap.size + 1, 2, none⟩ (.slice E q f))) (fun b hb => hF.out.1 b (by have := hown9.out b hb; omega) (by have := hown9.out b hb; omega))
      exact h1.rdD encEnt_len (fun b hb1 hb2 => .inr ⟨by omega, hb2⟩)
    · have h1 := ho69'.out.keep (w' := ((((w9.setCell ⟨w.heap.size, 0, none⟩ (.slice A9 n9 c9)).setCell ⟨w.heap.size + 1, 0, none⟩ (.slice A9 n9 c9)).setCell ⟨w.heap.size + 1, 1, none⟩ (.slice (some ⟨g4, 0, none⟩) 16 c4)).setCell ⟨w.heap.size + 1, 2, none⟩ (.slice E q f))) (fun b hb => hF.out.1 b (by simp [Value.ownBlock] at hb; omega) (by simp [Value.ownBlock] at hb; omega))
      rw [hd.out]
      exact h1.rdD encI_len (fun b hb1 hb2 => .inr ⟨by omega, hb2⟩)
    · exact (hg9h.out.la.keep (fun b hb => hF.out.1 b (by have := hD b hb; omega) (by have := hD b hb; omega))).mono (fun b hb => .inl hb)
  · refine wp_region_T (fun _ => True) [] [] [] [0, 1, 2, 3, 4, 5, 6, 7, 8, 9, 10, 11, 12] (by kernel_rfl) (by kernel_rfl) (by kernel_rfl) trivial ?_; simp only [pickL, List.getElem?_cons_succ, List.getElem?_cons_zero]
    go_wp2_with (first
      | ((with_reducible refine wpT_q0 ?_ ?_ ?_ ?_); (focus rfl); (focus rfl); (focus rfl); intro K hK) | ((with_reducible refine wpT_x0 ?_ ?_ ?_); (focus rfl); (focus rfl); intro K hK) | ((with_reducible refine wpT_noL ?_ ?_); (focus (first | exact wanted_no _ _ _ rfl rfl rfl | exact wanted_un _ _ _ rfl rfl rfl)); simp only [setO, List.set_cons_succ, List.set_cons_zero]) | ((with_reducible refine wpT_q1 ?_ ?_ ?_ ?_); (focus exact wanted_yes _ _ _ rfl rfl rfl); (focus rfl); (focus rfl); intro K hK) | ((with_reducible refine wpT_x1 ?_ ?_ ?_); (focus exact wanted_yes _ _ _ rfl rfl rfl); (focus rfl); intro K hK) | ((with_reducible refine wpT_nil ?_); try dsimp only)
      | (at_builtin; generalize ((w5.setCell ⟨g4, sq, none⟩ (.int .i64 (g.2.1[sq] + g.1[k].2.2.2.2))).alloc (.cells #[] 82)).drew = w6 at *; refine wpList_app encEnt_len (by omega) encEnt_one rfl _ _ 33 rfl 82 _ 40 Tryd.underlying33 infoEnt rfl w5.heap.size _ [] rfl hown6 0 w.heap.size _ (g.1.take k) _ _ rfl hkl'.out hsl6 ?h2 ?h3 ?_)
      | fail)
    case h2 => have := hlk.out; simp [maxLen]; omega
    case h3 => omega
    intro v7 w7 ho7 hg7 hb7
    try rw [List.nil_append] at ho7
    obtain ⟨A7, c7, hv7, hc71, hc72, _⟩ := ho7.form
    rw [hlk.out] at hv7 hc71
    subst hv7
    unfold maxLen at hc72
    have hx7 := hx6'.below hb7 (by omega)
    have hy7 := hy6'.below hb7 (by omega)
    have hg7' := hg6'.below hb7 (fun b hb => by have := hD b hb; omega)
    have ho67 := ho6'.keep (fun b hb => hb7.block b (by simp [Value.ownBlock] at hb; omega))
    have hs67 := hb7.size
    have hB7 := hB6'.trans (hb7.mono (by omega))
    obtain ⟨yx0, yx1, yx2, yf0, yf1, yf2⟩ := hx7.cells
    obtain ⟨yy0, yy1, yy2, yg0, yg1, yg2⟩ := hy7.cells
    have hlw7 := hx7.lt
    have hly7 := hy7.lt
    have hsl7 : Hid (Sl encEnt 5 w7 0 w.heap.size (some ⟨b, off + (k + 1) * 5, none⟩) (g.1.drop (k + 1))) := hide (hg7'.en.drop_ (k + 1) (by omega)).sl hD
    have hdm := hide hdl.out.symm
    clear xx0 xx1 xx2 xf0 xf1 xf2 hx6' hy6' hg6' ho6' hB6' hown6 hsl6 hg7 hb7
    go_wp2_with (first
      | (at_builtin; refine wpList_app encEnt_len (by omega) encEnt_one rfl _ _ 33 rfl 82 _ 40 Tryd.underlying33 infoEnt rfl w5.heap.size _ (g.1.take k) rfl ho7 0 w.heap.size _ (g.1.drop (k + 1)) _ _ rfl (by have := hdm.out; omega) hsl7.out ?h4 ?h5 ?_)
      | fail)
    case h4 => have h1 := hlk.out; have h2 := hdm.out; rw [h1, ← h2]; simp [maxLen]; omega
    case h5 => omega
    intro v9 w9 ho9 hg9 hb9
    rw [sl_take_drop] at ho9
    obtain ⟨A9, n9, c9, rfl, hn9⟩ := ho9.shape
    have hcap9 := ho9.cap
    have hx9 := hx7.below hb9 (by omega)
    have hy9 := hy7.below hb9 (by omega)
    have hg9' := hg7'.below hb9 (fun b hb => by have := hD b hb; omega)
    have ho69 := ho67.keep (fun b hb => hb9.block b (by simp [Value.ownBlock] at hb; omega))
    have hs79 := hb9.size
    have hB9 := hB7.trans (hb9.mono (by omega))
    clear yx0 yx1 yx2 yf0 yf1 yf2 yy0 yy1 yy2 yg0 yg1 yg2
    obtain ⟨yx0, yx1, yx2, yf0, yf1, yf2⟩ := hx9.cells
    obtain ⟨yy0, yy1, yy2, yg0, yg1, yg2⟩ := hy9.cells
    have hF := hide (fin4 w9 w.heap.size (.slice A9 n9 c9) (.slice A9 n9 c9) (.slice (some ⟨g4, 0, none⟩) 16 c4) (.slice E q f))
    have ho9' := hide ho9
    have ho69' := hide ho69
    have hg9h := hide hg9'
    have hB9' := hide hB9
    have hown9 := hide (fun k hk => (ho9.lt k hk).1)
    clear ho9 ho69 hg9' hB9 hx9 hy9 hx7 hy7 hg7' ho67 hB7 hg9 hb9 ho7
    go_wp2
    refine bodyPost_ret (v := .agg #[.slice A9 n9 c9, .slice (some ⟨g4, 0, none⟩) 16 c4, .slice E q f]) (by simp [results, Tryd.results96, go_sem, yy0, yy1, yy2, yg0, yg1, yg2]) rfl ⟨A9, n9, c9, some ⟨g4, 0, none⟩, 16, c4, E, q, f, rfl, ⟨?_, ?_, ?_, ho9'.out.ad⟩, hF.out.2.2 w hB9'.out⟩
    · have h1 := ho9'.out.keep (w' := ((((w9.setCell ⟨w.heap.size, 0, none⟩ (.slice A9 n9 c9)).setCell ⟨w.heap.size + 1, 0, none⟩ (.slice A9 n9 c9)).setCell ⟨w.heap.size + 1, 1, none⟩ (.slice (some ⟨g4, 0, none⟩) 16 c4)).setCell ⟨w.heap.size + 1, 2, none⟩ (.slice E q f))) (fun b hb => hF.out.1 b (by have := hown9.out b hb; omega) (by have := hown9.out b hb; omega))
      exact h1.rdD encEnt_len (fun b hb1 hb2 => .inr ⟨by omega, hb2⟩)
    · have h1 := ho69'.out.keep (w' := ((((w9.setCell ⟨w.heap.size, 0, none⟩ (.slice A9 n9 c9)).setCell ⟨w.heap.size + 1, 0, none⟩ (.slice A9 n9 c9)).setCell ⟨w.heap.size + 1, 1, none⟩ (.slice (some ⟨g4, 0, none⟩) 16 c4)).setCell ⟨w.heap.size + 1, 2, none⟩ (.slice E q f))) (fun b hb => hF.out.1 b (by simp [Value.ownBlock] at hb; omega) (by simp [Value.ownBlock] at hb; omega))
      rw [hd.out]
      exact h1.rdD encI_len (fun b hb1 hb2 => .inr ⟨by omega, hb2⟩)
    · exact (hg9h.out.la.keep (fun b hb => hF.out.1 b (by have := hD b hb; omega) (by have := hD b hb; omega))).mono (fun b hb => .inl hb)

theorem joinE_at {es : List EntT} {c : Int} {k : Nat} (hk : k ≤ es.length) (h1 : ∀ (i : Nat) (hi : i < es.length), i < k → es[i].1 < c) (h2 : ∀ (hi : k < es.length), ¬ es[k].1 < c) : joinE es c = es.take k ++ (c, c - 1, c - 1, 3, 0) :: es.drop k := by
  have key : ∀ (es : List EntT) (k : Nat), k ≤ es.length → (∀ (i : Nat) (hi : i < es.length), i < k → es[i].1 < c) → (∀ (hi : k < es.length), ¬ es[k].1 < c) → es.takeWhile (fun e => decide (e.1 < c)) = es.take k ∧ es.dropWhile (fun e => decide (e.1 < c)) = es.drop k := by
    intro es
    induction es with
    | nil => intro k hk _ _; simp at hk; subst hk; simp
    | cons x es ih =>
      intro k hk h1 h2
      cases k with
      | zero =>
        have := h2 (by simp)
        simp only [List.getElem_cons_zero] at this
        simp [List.takeWhile_cons, List.dropWhile_cons, this]
      | succ k =>
        have h0 := h1 0 (by simp) (by omega)
        simp only [List.getElem_cons_zero] at h0
        obtain ⟨h3, h4⟩ := ih k (by simpa using hk) (fun i hi hik => by have := h1 (i + 1) (by simpa using hi) (by omega); simpa using this) (fun hi => by have := h2 (by simpa using hi); simpa using this)
        simp [List.takeWhile_cons, List.dropWhile_cons, h0, h3, h4]
  unfold joinE
  obtain ⟨h3, h4⟩ := key es k hk h1 h2
  rw [h3, h4]
set_option maxRecDepth 100000 in
set_option maxHeartbeats 2000000 in
theorem l2Join_c (A : Option Addr) (n c : Nat) (B : Option Addr) (p d : Nat) (E : Option Addr) (q f : Nat) (D : Nat → Prop) (g : GameT) (cl : Int) (w : World) (hg : GmD w D A n c B p d E q f g) (hD : ∀ b, D b → b < w.heap.size) (hok : okD g) (hcl : rng cl 1 4) :
    Calls Tryd.prog 50 #[.agg #[.slice A n c, .slice B p d, .slice E q f], .int .i64 cl] w fun e w' => GmPost w D (joinE g.1 cl, g.2.1, g.2.2) e w' := by
  have hb2 : Below w.heap.size w ((w.alloc (.cells #[.slice A n c, .slice B p d, .slice E q f] 35)).alloc (.cells #[.slice none 0 0, .slice none 0 0, .slice none 0 0] 35)) := ((Below.refl w.heap.size w).alloc (Nat.le_refl _) _).alloc (by simp) _
  have hg2 := hg.below hb2 hD
  have hz2 : w.heap.size + 1 + 1 ≤ (((w.alloc (.cells #[.slice A n c, .slice B p d, .slice E q f] 35)).alloc (.cells #[.slice none 0 0, .slice none 0 0, .slice none 0 0] 35))).heap.size := by simp
  have hx2 : Bx3 (((w.alloc (.cells #[.slice A n c, .slice B p d, .slice E q f] 35)).alloc (.cells #[.slice none 0 0, .slice none 0 0, .slice none 0 0] 35))) w.heap.size (.slice A n c) (.slice B p d) (.slice E q f) 35 := by
    have h1 := Bx3.made w (.slice A n c) (.slice B p d) (.slice E q f) 35
    exact h1.below ((Below.refl _ _).alloc (Nat.le_refl _) (.cells #[.slice none 0 0, .slice none 0 0, .slice none 0 0] 35)) h1.lt
  have hy2 : Bx3 (((w.alloc (.cells #[.slice A n c, .slice B p d, .slice E q f] 35)).alloc (.cells #[.slice none 0 0, .slice none 0 0, .slice none 0 0] 35))) (w.heap.size + 1) (.slice none 0 0) (.slice none 0 0) (.slice none 0 0) 35 := by
    have h1 := Bx3.made (w.alloc (.cells #[.slice A n c, .slice B p d, .slice E q f] 35)) (.slice none 0 0) (.slice none 0 0) (.slice none 0 0) 35
    simpa only [World.size_alloc] using h1
  have hn' := hide hg.en.len
  have hc1 := hg.en.cap
  have hc2 := hg.en.max
  have hc3 := hg.fl.cap
  have hc4 := hg.fl.max
  have hc5 := hg.la.cap
  have hc6 := hg.la.max
  unfold maxLen at hc2 hc4 hc6
  unfold rng at hcl
  have hn4 : n ≤ 4 := by
    have h1 := hok.ent
    have h3 := inc_len hok.inc (fun e he => (h1 e he).1)
    have := hn'.out
    omega
  obtain ⟨xx0, xx1, xx2, xf0, xf1, xf2⟩ := hx2.cells
  have hlx := hx2.lt
  have hly := hy2.lt
  have had := hide hg.ad
  clear hok hg
  go_enter Tryd.func50, Tryd.ntmps50
  go_wp2
  generalize ((w.alloc (.cells #[.slice A n c, .slice B p d, .slice E q f] 35)).alloc (.cells #[.slice none 0 0, .slice none 0 0, .slice none 0 0] 35)) = w2 at *
  go_loop [5] (fun iv => ∃ k : Nat, k ≤ n ∧ iv = .int .i64 (k : Int) ∧ Hid (∀ (i : Nat) (hi : i < g.1.length), i < k → g.1[i].1 < cl)) (fun iv => n - (intOf iv).toNat)
  case atStart => exact ⟨0, Nat.zero_le _, rfl, hide (fun i _ h => absurd h (by omega))⟩
  case round =>
    obtain ⟨k, hk, rfl, hlt1⟩ := hrel
    by_cases hlt : k < n
    · have hlxs : k < g.1.length := by have := hn'.out; omega
      obtain ⟨b, off, rfl, hlo1⟩ := hg2.en.addr hlxs
      have hbh := hD b hlo1
      obtain ⟨a0, a1, a2, a3, a4⟩ := hg2.en.ent hlxs
      cases e1 : decide (g.1[k].1 < cl)
      · have hfin := hide (joinE_at (c := cl) (by omega) hlt1.out (fun _ => by simpa using e1))
        obtain ⟨xs, hxs⟩ : ∃ xs, Hid (xs = g.1.take k) := ⟨_, hide rfl⟩
        obtain ⟨ys, hys⟩ : ∃ ys, Hid (ys = g.1.drop k) := ⟨_, hide rfl⟩
        have hown2 := own_empty encEnt 5 82 w2
        have hA2 := (Below.refl w2.heap.size w2).alloc (Nat.le_refl _) (.cells #[] 82)
        have hsl2 : Hid (Sl encEnt 5 (w2.alloc (.cells #[] 82)) 0 w.heap.size (some ⟨b, off, none⟩) xs) := hide (by rw [hxs.out]; exact (((hg2.en.sl hD).take_ k).below hA2 (by omega)))
        have hkl : Hid (k = xs.length) := hide (by rw [hxs.out, List.length_take]; have := hn'.out; omega)
        have hdm : Hid (n - k = ys.length) := hide (by rw [hys.out, List.length_drop, hn'.out])
        have hjn : Hid (joinE g.1 cl = xs ++ (cl, cl - 1, cl - 1, 3, 0) :: ys) := hide (by rw [hxs.out, hys.out]; exact hfin.out)
        have hxl : Hid (xs.length ≤ 4) := hide (by have := hkl.out; omega)
        have hyl : Hid (ys.length ≤ 4) := hide (by have := hdm.out; omega)
        clear hfin
        go_wp2_with (first
          | (at_builtin; refine wpList_app encEnt_len (by omega) encEnt_one rfl _ _ 33 rfl 82 _ 40 Tryd.underlying33 infoEnt rfl w2.heap.size _ [] rfl hown2 0 w.heap.size _ xs _ _ rfl (by have := hkl.out; omega) hsl2.out (by have := hxl.out; simp only [List.length_nil, maxLen]; omega) (by simp) ?_)
          | fail)
        intro v4 w4 ho4 hg4 hb4
        try rw [List.nil_append] at ho4
        have hb24 := (hA2.trans hb4)
        have hx4 := hx2.below hb24 hlx
        have hy4 := hy2.below hb24 hly
        have hg24 := hg2.below hb24 (fun b hb => by have := hD b hb; omega)
        have hs24 := hb24.size
        have hB4 := hb2.trans (hb24.mono (by omega))
        clear hown2 hA2 hsl2 hg4 hb4 xx0 xx1 xx2 xf0 xf1 xf2
        obtain ⟨xx0, xx1, xx2, xf0, xf1, xf2⟩ := hx4.cells
        have hlx4 := hx4.lt
        go_wp2_with (first
          | (at_builtin; refine wpList_app encEnt_len (by omega) encEnt_one rfl _ _ 33 rfl 82 _ 40 Tryd.underlying33 infoEnt rfl w2.heap.size _ xs rfl (ho4.alloc _) 0 _ _ [(cl, cl - 1, cl - 1, 3, 0)] _ _ rfl rfl (sl_arr encEnt_len w4 #[.int .i64 cl, .int .i64 (cl - 1), .int .i64 (cl - 1), .int .i64 3, .int .i64 0] 82 [(cl, cl - 1, cl - 1, 3, 0)] rfl |>.mono (Nat.zero_le _) (Nat.le_refl _)) (by have := hxl.out; simp only [List.length_cons, List.length_nil, maxLen]; omega) (by simp; omega) ?_)
          | fail)
        intro v5 w5 ho5 hg5 hb5
        have hb25 : Below w2.heap.size w4 w5 := ((Below.refl w4.heap.size w4).alloc (Nat.le_refl _) _ |>.mono hs24).trans hb5
        have hx5 := hx4.below hb25 (by omega)
        have hy5 := hy4.below hb25 (by omega)
        have hg25 := hg24.below hb25 (fun b hb => by have := hD b hb; omega)
        have hs25 := hb25.size
        have hB5 := hB4.trans (hb25.mono (by omega))
        have hsl5 : Hid (Sl encEnt 5 w5 0 w.heap.size (some ⟨b, off + k * 5, none⟩) ys) := hide (by rw [hys.out]; exact (hg25.en.drop_ k (by omega)).sl hD)
        clear hg5 hb5 xx0 xx1 xx2 xf0 xf1 xf2
        obtain ⟨xx0, xx1, xx2, xf0, xf1, xf2⟩ := hx5.cells
        have hlx5 := hx5.lt
        go_wp2_with (first
          | (at_builtin; refine wpList_app encEnt_len (by omega) encEnt_one rfl _ _ 33 rfl 82 _ 40 Tryd.underlying33 infoEnt rfl w2.heap.size _ (xs ++ [(cl, cl - 1, cl - 1, 3, 0)]) rfl ho5 0 w.heap.size _ ys _ _ rfl (by have := hdm.out; omega) (by first | exact hsl5.out | simpa using hsl5.out) (by have h1 := hxl.out; have h2 := hyl.out; simp only [List.length_append, List.length_cons, List.length_nil, maxLen]; omega) (by omega) ?_)
          | fail)
        intro v9 w9 ho9 hg9 hb9
        try rw [List.append_assoc] at ho9
        try rw [List.singleton_append] at ho9
        rw [← hjn.out] at ho9
        obtain ⟨A9, n9, c9, rfl, hn9⟩ := ho9.shape
        have hcap9 := ho9.cap
        have hx9 := hx5.below hb9 (by omega)
        have hy9 := hy5.below hb9 (by omega)
        have hg9' := hg25.below hb9 (fun b hb => by have := hD b hb; omega)
        have hs79 := hb9.size
        have hB9 := hB5.trans (hb9.mono (by omega))
        clear xx0 xx1 xx2 xf0 xf1 xf2
        obtain ⟨yx0, yx1, yx2, yf0, yf1, yf2⟩ := hx9.cells
        obtain ⟨yy0, yy1, yy2, yg0, yg1, yg2⟩ := hy9.cells
        have hlx9 := hx9.lt
        have hly9 := hy9.lt
        have hF := hide (fin4 w9 w.heap.size (.slice A9 n9 c9) (.slice A9 n9 c9) (.slice B p d) (.slice E q f))
        have ho9' := hide ho9
        have hg9h := hide hg9'
        have hB9' := hide hB9
        have hown9 := hide (fun k hk => (ho9.lt k hk).1)
        clear ho9 hg9' hB9 hx9 hy9 hg9 hb9 hx5 hy5 hx4 hy4 hx2 hy2 hg25 hg24 hg2 hB5 hB4 hb24 hb25 hb2 ho5 ho4
        go_wp2
        refine bodyPost_ret (v := .agg #[.slice A9 n9 c9, .slice B p d, .slice E q f]) (by simp [results, Tryd.results50, go_sem, yy0, yy1, yy2, yg0, yg1, yg2]) rfl ⟨A9, n9, c9, B, p, d, E, q, f, rfl, ⟨?_, ?_, ?_, ho9'.out.ad⟩, hF.out.2.2 w hB9'.out⟩
        · have h1 := ho9'.out.keep (w' := ((((w9.setCell ⟨w.heap.size, 0, none⟩ (.slice A9 n9 c9)).setCell ⟨w.heap.size + 1, 0, none⟩ (.slice A9 n9 c9)).setCell ⟨w.heap.size + 1, 1, none⟩ (.slice B p d)).setCell ⟨w.heap.size + 1, 2, none⟩ (.slice E q f))) (fun b hb => hF.out.1 b (by have := hown9.out b hb; omega) (by have := hown9.out b hb; omega))
          exact h1.rdD encEnt_len (fun b hb1 hb2 => .inr ⟨by omega, hb2⟩)
        · exact (hg9h.out.fl.keep (fun b hb => hF.out.1 b (by have := hD b hb; omega) (by have := hD b hb; omega))).mono (fun b hb => .inl hb)
        · exact (hg9h.out.la.keep (fun b hb => hF.out.1 b (by have := hD b hb; omega) (by have := hD b hb; omega))).mono (fun b hb => .inl hb)
      · have hyes := hide (show g.1[k].1 < cl by simpa using e1)
        go_wp2
        go_roundw
        case rel => exact ⟨k + 1, by omega, by go_num, hide (fun i hi h => by
          by_cases h9 : i < k
          · exact hlt1.out i hi h9
          · obtain rfl : i = k := by omega
            exact hyes.out)⟩
        case measure => simp [intOf]; omega
    · obtain rfl : k = n := by omega
      have hfin := hide (joinE_at (c := cl) (Nat.le_of_eq hn'.out) hlt1.out (fun h => absurd h (by have := hn'.out; omega)))
      rcases had.out with ⟨rfl, h8, h9⟩ | ⟨b, off, rfl⟩
      · subst h8
        subst h9
        obtain ⟨xs, hxs⟩ : ∃ xs, Hid (xs = g.1.take 0) := ⟨_, hide rfl⟩
        obtain ⟨ys, hys⟩ : ∃ ys, Hid (ys = g.1.drop 0) := ⟨_, hide rfl⟩
        have hown2 := own_empty encEnt 5 82 w2
        have hA2 := (Below.refl w2.heap.size w2).alloc (Nat.le_refl _) (.cells #[] 82)
        have hsl2 : Hid (Sl encEnt 5 (w2.alloc (.cells #[] 82)) 0 w.heap.size (none) xs) := hide (by rw [hxs.out]; exact (((hg2.en.sl hD).take_ 0).below hA2 (by omega)))
        have hkl : Hid (0 = xs.length) := hide (by rw [hxs.out, List.length_take]; have := hn'.out; omega)
        have hdm : Hid (0 - 0 = ys.length) := hide (by rw [hys.out, List.length_drop, hn'.out])
        have hjn : Hid (joinE g.1 cl = xs ++ (cl, cl - 1, cl - 1, 3, 0) :: ys) := hide (by rw [hxs.out, hys.out]; exact hfin.out)
        have hxl : Hid (xs.length ≤ 4) := hide (by have := hkl.out; omega)
        have hyl : Hid (ys.length ≤ 4) := hide (by have := hdm.out; omega)
        clear hfin
        go_wp2_with (first
          | (at_builtin; refine wpList_app encEnt_len (by omega) encEnt_one rfl _ _ 33 rfl 82 _ 40 Tryd.underlying33 infoEnt rfl w2.heap.size _ [] rfl hown2 0 w.heap.size _ xs _ _ rfl (by have := hkl.out; omega) hsl2.out (by have := hxl.out; simp only [List.length_nil, maxLen]; omega) (by simp) ?_)
          | fail)
        intro v4 w4 ho4 hg4 hb4
        try rw [List.nil_append] at ho4
        have hb24 := (hA2.trans hb4)
        have hx4 := hx2.below hb24 hlx
        have hy4 := hy2.below hb24 hly
        have hg24 := hg2.below hb24 (fun b hb => by have := hD b hb; omega)
        have hs24 := hb24.size
        have hB4 := hb2.trans (hb24.mono (by omega))
        clear hown2 hA2 hsl2 hg4 hb4 xx0 xx1 xx2 xf0 xf1 xf2
        obtain ⟨xx0, xx1, xx2, xf0, xf1, xf2⟩ := hx4.cells
        have hlx4 := hx4.lt
        go_wp2_with (first
          | (at_builtin; refine wpList_app encEnt_len (by omega) encEnt_one rfl _ _ 33 rfl 82 _ 40 Tryd.underlying33 infoEnt rfl w2.heap.size _ xs rfl (ho4.alloc _) 0 _ _ [(cl, cl - 1, cl - 1, 3, 0)] _ _ rfl rfl (sl_arr encEnt_len w4 #[.int .i64 cl, .int .i64 (cl - 1), .int .i64 (cl - 1), .int .i64 3, .int .i64 0] 82 [(cl, cl - 1, cl - 1, 3, 0)] rfl |>.mono (Nat.zero_le _) (Nat.le_refl _)) (by have := hxl.out; simp only [List.length_cons, List.length_nil, maxLen]; omega) (by simp; omega) ?_)
          | fail)
        intro v5 w5 ho5 hg5 hb5
        have hb25 : Below w2.heap.size w4 w5 := ((Below.refl w4.heap.size w4).alloc (Nat.le_refl _) _ |>.mono hs24).trans hb5
        have hx5 := hx4.below hb25 (by omega)
        have hy5 := hy4.below hb25 (by omega)
        have hg25 := hg24.below hb25 (fun b hb => by have := hD b hb; omega)
        have hs25 := hb25.size
        have hB5 := hB4.trans (hb25.mono (by omega))
        have hsl5 : Hid (Sl encEnt 5 w5 0 w.heap.size (none) ys) := hide (by rw [hys.out]; exact by have h9 : g.1.drop 0 = [] := List.eq_nil_of_length_eq_zero (by rw [List.length_drop]; have := hn'.out; omega); rw [h9]; exact Sl.nil_)
        clear hg5 hb5 xx0 xx1 xx2 xf0 xf1 xf2
        obtain ⟨xx0, xx1, xx2, xf0, xf1, xf2⟩ := hx5.cells
        have hlx5 := hx5.lt
        go_wp2_with (first
          | (at_builtin; refine wpList_app encEnt_len (by omega) encEnt_one rfl _ _ 33 rfl 82 _ 40 Tryd.underlying33 infoEnt rfl w2.heap.size _ (xs ++ [(cl, cl - 1, cl - 1, 3, 0)]) rfl ho5 0 w.heap.size _ ys _ _ rfl (by have := hdm.out; omega) (by first | exact hsl5.out | simpa using hsl5.out) (by have h1 := hxl.out; have h2 := hyl.out; simp only [List.length_append, List.length_cons, List.length_nil, maxLen]; omega) (by omega) ?_)
          | fail)
        intro v9 w9 ho9 hg9 hb9
        try rw [List.append_assoc] at ho9
        try rw [List.singleton_append] at ho9
        rw [← hjn.out] at ho9
        obtain ⟨A9, n9, c9, rfl, hn9⟩ := ho9.shape
        have hcap9 := ho9.cap
        have hx9 := hx5.below hb9 (by omega)
        have hy9 := hy5.below hb9 (by omega)
        have hg9' := hg25.below hb9 (fun b hb => by have := hD b hb; omega)
        have hs79 := hb9.size
        have hB9 := hB5.trans (hb9.mono (by omega))
        clear xx0 xx1 xx2 xf0 xf1 xf2
        obtain ⟨yx0, yx1, yx2, yf0, yf1, yf2⟩ := hx9.cells
        obtain ⟨yy0, yy1, yy2, yg0, yg1, yg2⟩ := hy9.cells
        have hlx9 := hx9.lt
        have hly9 := hy9.lt
        have hF := hide (fin4 w9 w.heap.size (.slice A9 n9 c9) (.slice A9 n9 c9) (.slice B p d) (.slice E q f))
        have ho9' := hide ho9
        have hg9h := hide hg9'
        have hB9' := hide hB9
        have hown9 := hide (fun k hk => (ho9.lt k hk).1)
        clear ho9 hg9' hB9 hx9 hy9 hg9 hb9 hx5 hy5 hx4 hy4 hx2 hy2 hg25 hg24 hg2 hB5 hB4 hb24 hb25 hb2 ho5 ho4
        go_wp2
        refine bodyPost_ret (v := .agg #[.slice A9 n9 c9, .slice B p d, .slice E q f]) (by simp [results, Tryd.results50, go_sem, yy0, yy1, yy2, yg0, yg1, yg2]) rfl ⟨A9, n9, c9, B, p, d, E, q, f, rfl, ⟨?_, ?_, ?_, ho9'.out.ad⟩, hF.out.2.2 w hB9'.out⟩
        · have h1 := ho9'.out.keep (w' := ((((w9.setCell ⟨w.heap.size, 0, none⟩ (.slice A9 n9 c9)).setCell ⟨w.heap.size + 1, 0, none⟩ (.slice A9 n9 c9)).setCell ⟨w.heap.size + 1, 1, none⟩ (.slice B p d)).setCell ⟨w.heap.size + 1, 2, none⟩ (.slice E q f))) (fun b hb => hF.out.1 b (by have := hown9.out b hb; omega) (by have := hown9.out b hb; omega))
          exact h1.rdD encEnt_len (fun b hb1 hb2 => .inr ⟨by omega, hb2⟩)
        · exact (hg9h.out.fl.keep (fun b hb => hF.out.1 b (by have := hD b hb; omega) (by have := hD b hb; omega))).mono (fun b hb => .inl hb)
        · exact (hg9h.out.la.keep (fun b hb => hF.out.1 b (by have := hD b hb; omega) (by have := hD b hb; omega))).mono (fun b hb => .inl hb)
      · by_cases hck : c = k
        · obtain rfl : k = c := hck.symm
          obtain ⟨xs, hxs⟩ : ∃ xs, Hid (xs = g.1.take k) := ⟨_, hide rfl⟩
          obtain ⟨ys, hys⟩ : ∃ ys, Hid (ys = g.1.drop k) := ⟨_, hide rfl⟩
          have hown2 := own_empty encEnt 5 82 w2
          have hA2 := (Below.refl w2.heap.size w2).alloc (Nat.le_refl _) (.cells #[] 82)
          have hsl2 : Hid (Sl encEnt 5 (w2.alloc (.cells #[] 82)) 0 w.heap.size (some ⟨b, off, none⟩) xs) := hide (by rw [hxs.out]; exact (((hg2.en.sl hD).take_ k).below hA2 (by omega)))
          have hkl : Hid (k = xs.length) := hide (by rw [hxs.out, List.length_take]; have := hn'.out; omega)
          have hdm : Hid (k - k = ys.length) := hide (by rw [hys.out, List.length_drop, hn'.out])
          have hjn : Hid (joinE g.1 cl = xs ++ (cl, cl - 1, cl - 1, 3, 0) :: ys) := hide (by rw [hxs.out, hys.out]; exact hfin.out)
          have hxl : Hid (xs.length ≤ 4) := hide (by have := hkl.out; omega)
          have hyl : Hid (ys.length ≤ 4) := hide (by have := hdm.out; omega)
          clear hfin
          go_wp2_with (first
            | (at_builtin; refine wpList_app encEnt_len (by omega) encEnt_one rfl _ _ 33 rfl 82 _ 40 Tryd.underlying33 infoEnt rfl w2.heap.size _ [] rfl hown2 0 w.heap.size _ xs _ _ rfl (by have := hkl.out; omega) hsl2.out (by have := hxl.out; simp only [List.length_nil, maxLen]; omega) (by simp) ?_)
            | fail)
          intro v4 w4 ho4 hg4 hb4
          try rw [List.nil_append] at ho4
          have hb24 := (hA2.trans hb4)
          have hx4 := hx2.below hb24 hlx
          have hy4 := hy2.below hb24 hly
          have hg24 := hg2.below hb24 (fun b hb => by have := hD b hb; omega)
          have hs24 := hb24.size
          have hB4 := hb2.trans (hb24.mono (by omega))
          clear hown2 hA2 hsl2 hg4 hb4 xx0 xx1 xx2 xf0 xf1 xf2
          obtain ⟨xx0, xx1, xx2, xf0, xf1, xf2⟩ := hx4.cells
          have hlx4 := hx4.lt
          go_wp2_with (first
            | (at_builtin; refine wpList_app encEnt_len (by omega) encEnt_one rfl _ _ 33 rfl 82 _ 40 Tryd.underlying33 infoEnt rfl w2.heap.size _ xs rfl (ho4.alloc _) 0 _ _ [(cl, cl - 1, cl - 1, 3, 0)] _ _ rfl rfl (sl_arr encEnt_len w4 #[.int .i64 cl, .int .i64 (cl - 1), .int .i64 (cl - 1), .int .i64 3, .int .i64 0] 82 [(cl, cl - 1, cl - 1, 3, 0)] rfl |>.mono (Nat.zero_le _) (Nat.le_refl _)) (by have := hxl.out; simp only [List.length_cons, List.length_nil, maxLen]; omega) (by simp; omega) ?_)
            | fail)
          intro v5 w5 ho5 hg5 hb5
          have hb25 : Below w2.heap.size w4 w5 := ((Below.refl w4.heap.size w4).alloc (Nat.le_refl _) _ |>.mono hs24).trans hb5
          have hx5 := hx4.below hb25 (by omega)
          have hy5 := hy4.below hb25 (by omega)
          have hg25 := hg24.below hb25 (fun b hb => by have := hD b hb; omega)
          have hs25 := hb25.size
          have hB5 := hB4.trans (hb25.mono (by omega))
          have hsl5 : Hid (Sl encEnt 5 w5 0 w.heap.size (some ⟨b, off, none⟩) ys) := hide (by rw [hys.out]; exact by have h9 : g.1.drop k = [] := List.eq_nil_of_length_eq_zero (by rw [List.length_drop]; have := hn'.out; omega); rw [h9]; exact Sl.nil_)
          clear hg5 hb5 xx0 xx1 xx2 xf0 xf1 xf2
          obtain ⟨xx0, xx1, xx2, xf0, xf1, xf2⟩ := hx5.cells
          have hlx5 := hx5.lt
          go_wp2_with (first
            | (at_builtin; refine wpList_app encEnt_len (by omega) encEnt_one rfl _ _ 33 rfl 82 _ 40 Tryd.underlying33 infoEnt rfl w2.heap.size _ (xs ++ [(cl, cl - 1, cl - 1, 3, 0)]) rfl ho5 0 w.heap.size _ ys _ _ rfl (by have := hdm.out; omega) (by first | exact hsl5.out | simpa using hsl5.out) (by have h1 := hxl.out; have h2 := hyl.out; simp only [List.length_append, List.length_cons, List.length_nil, maxLen]; omega) (by omega) ?_)
            | fail)
          intro v9 w9 ho9 hg9 hb9
          try rw [List.append_assoc] at ho9
          try rw [List.singleton_append] at ho9
          rw [← hjn.out] at ho9
          obtain ⟨A9, n9, c9, rfl, hn9⟩ := ho9.shape
          have hcap9 := ho9.cap
          have hx9 := hx5.below hb9 (by omega)
          have hy9 := hy5.below hb9 (by omega)
          have hg9' := hg25.below hb9 (fun b hb => by have := hD b hb; omega)
          have hs79 := hb9.size
          have hB9 := hB5.trans (hb9.mono (by omega))
          clear xx0 xx1 xx2 xf0 xf1 xf2
          obtain ⟨yx0, yx1, yx2, yf0, yf1, yf2⟩ := hx9.cells
          obtain ⟨yy0, yy1, yy2, yg0, yg1, yg2⟩ := hy9.cells
          have hlx9 := hx9.lt
          have hly9 := hy9.lt
          have hF := hide (fin4 w9 w.heap.size (.slice A9 n9 c9) (.slice A9 n9 c9) (.slice B p d) (.slice E q f))
          have ho9' := hide ho9
          have hg9h := hide hg9'
          have hB9' := hide hB9
          have hown9 := hide (fun k hk => (ho9.lt k hk).1)
          clear ho9 hg9' hB9 hx9 hy9 hg9 hb9 hx5 hy5 hx4 hy4 hx2 hy2 hg25 hg24 hg2 hB5 hB4 hb24 hb25 hb2 ho5 ho4
          go_wp2
          refine bodyPost_ret (v := .agg #[.slice A9 n9 c9, .slice B p d, .slice E q f]) (by simp [results, Tryd.results50, go_sem, yy0, yy1, yy2, yg0, yg1, yg2]) rfl ⟨A9, n9, c9, B, p, d, E, q, f, rfl, ⟨?_, ?_, ?_, ho9'.out.ad⟩, hF.out.2.2 w hB9'.out⟩
          · have h1 := ho9'.out.keep (w' := ((((w9.setCell ⟨w.heap.size, 0, none⟩ (.slice A9 n9 c9)).setCell ⟨w.heap.size + 1, 0, none⟩ (.slice A9 n9 c9)).setCell ⟨w.heap.size + 1, 1, none⟩ (.slice B p d)).setCell ⟨w.heap.size + 1, 2, none⟩ (.slice E q f))) (fun b hb => hF.out.1 b (by have := hown9.out b hb; omega) (by have := hown9.out b hb; omega))
            exact h1.rdD encEnt_len (fun b hb1 hb2 => .inr ⟨by omega, hb2⟩)
          · exact (hg9h.out.fl.keep (fun b hb => hF.out.1 b (by have := hD b hb; omega) (by have := hD b hb; omega))).mono (fun b hb => .inl hb)
          · exact (hg9h.out.la.keep (fun b hb => hF.out.1 b (by have := hD b hb; omega) (by have := hD b hb; omega))).mono (fun b hb => .inl hb)
        · obtain ⟨xs, hxs⟩ : ∃ xs, Hid (xs = g.1.take k) := ⟨_, hide rfl⟩
          obtain ⟨ys, hys⟩ : ∃ ys, Hid (ys = g.1.drop k) := ⟨_, hide rfl⟩
          have hown2 := own_empty encEnt 5 82 w2
          have hA2 := (Below.refl w2.heap.size w2).alloc (Nat.le_refl _) (.cells #[] 82)
          have hsl2 : Hid (Sl encEnt 5 (w2.alloc (.cells #[] 82)) 0 w.heap.size (some ⟨b, off, none⟩) xs) := hide (by rw [hxs.out]; exact (((hg2.en.sl hD).take_ k).below hA2 (by omega)))
          have hkl : Hid (k = xs.length) := hide (by rw [hxs.out, List.length_take]; have := hn'.out; omega)
          have hdm : Hid (k - k = ys.length) := hide (by rw [hys.out, List.length_drop, hn'.out])
          have hjn : Hid (joinE g.1 cl = xs ++ (cl, cl - 1, cl - 1, 3, 0) :: ys) := hide (by rw [hxs.out, hys.out]; exact hfin.out)
          have hxl : Hid (xs.length ≤ 4) := hide (by have := hkl.out; omega)
          have hyl : Hid (ys.length ≤ 4) := hide (by have := hdm.out; omega)
          clear hfin
          go_wp2_with (first
            | (at_builtin; refine wpList_app encEnt_len (by omega) encEnt_one rfl _ _ 33 rfl 82 _ 40 Tryd.underlying33 infoEnt rfl w2.heap.size _ [] rfl hown2 0 w.heap.size _ xs _ _ rfl (by have := hkl.out; omega) hsl2.out (by have := hxl.out; simp only [List.length_nil, maxLen]; omega) (by simp) ?_)
            | fail)
          intro v4 w4 ho4 hg4 hb4
          try rw [List.nil_append] at ho4
          have hb24 := (hA2.trans hb4)
          have hx4 := hx2.below hb24 hlx
          have hy4 := hy2.below hb24 hly
          have hg24 := hg2.below hb24 (fun b hb => by have := hD b hb; omega)
          have hs24 := hb24.size
          have hB4 := hb2.trans (hb24.mono (by omega))
          clear hown2 hA2 hsl2 hg4 hb4 xx0 xx1 xx2 xf0 xf1 xf2
          obtain ⟨xx0, xx1, xx2, xf0, xf1, xf2⟩ := hx4.cells
          have hlx4 := hx4.lt
          go_wp2_with (first
            | (at_builtin; refine wpList_app encEnt_len (by omega) encEnt_one rfl _ _ 33 rfl 82 _ 40 Tryd.underlying33 infoEnt rfl w2.heap.size _ xs rfl (ho4.alloc _) 0 _ _ [(cl, cl - 1, cl - 1, 3, 0)] _ _ rfl rfl (sl_arr encEnt_len w4 #[.int .i64 cl, .int .i64 (cl - 1), .int .i64 (cl - 1), .int .i64 3, .int .i64 0] 82 [(cl, cl - 1, cl - 1, 3, 0)] rfl |>.mono (Nat.zero_le _) (Nat.le_refl _)) (by have := hxl.out; simp only [List.length_cons, List.length_nil, maxLen]; omega) (by simp; omega) ?_)
            | fail)
          intro v5 w5 ho5 hg5 hb5
          have hb25 : Below w2.heap.size w4 w5 := ((Below.refl w4.heap.size w4).alloc (Nat.le_refl _) _ |>.mono hs24).trans hb5
          have hx5 := hx4.below hb25 (by omega)
          have hy5 := hy4.below hb25 (by omega)
          have hg25 := hg24.below hb25 (fun b hb => by have := hD b hb; omega)
          have hs25 := hb25.size
          have hB5 := hB4.trans (hb25.mono (by omega))
          have hsl5 : Hid (Sl encEnt 5 w5 0 w.heap.size (some ⟨b, off + k * 5, none⟩) ys) := hide (by rw [hys.out]; exact (hg25.en.drop_ k (by omega)).sl hD)
          clear hg5 hb5 xx0 xx1 xx2 xf0 xf1 xf2
          obtain ⟨xx0, xx1, xx2, xf0, xf1, xf2⟩ := hx5.cells
          have hlx5 := hx5.lt
          go_wp2_with (first
            | (at_builtin; refine wpList_app encEnt_len (by omega) encEnt_one rfl _ _ 33 rfl 82 _ 40 Tryd.underlying33 infoEnt rfl w2.heap.size _ (xs ++ [(cl, cl - 1, cl - 1, 3, 0)]) rfl ho5 0 w.heap.size _ ys _ _ rfl (by have := hdm.out; omega) (by first | exact hsl5.out | simpa using hsl5.out) (by have h1 := hxl.out; have h2 := hyl.out; simp only [List.length_append, List.length_cons, List.length_nil, maxLen]; omega) (by omega) ?_)
            | fail)
          intro v9 w9 ho9 hg9 hb9
          try rw [List.append_assoc] at ho9
          try rw [List.singleton_append] at ho9
          rw [← hjn.out] at ho9
          obtain ⟨A9, n9, c9, rfl, hn9⟩ := ho9.shape
          have hcap9 := ho9.cap
          have hx9 := hx5.below hb9 (by omega)
          have hy9 := hy5.below hb9 (by omega)
          have hg9' := hg25.below hb9 (fun b hb => by have := hD b hb; omega)
          have hs79 := hb9.size
          have hB9 := hB5.trans (hb9.mono (by omega))
          clear xx0 xx1 xx2 xf0 xf1 xf2
          obtain ⟨yx0, yx1, yx2, yf0, yf1, yf2⟩ := hx9.cells
          obtain ⟨yy0, yy1, yy2, yg0, yg1, yg2⟩ := hy9.cells
          have hlx9 := hx9.lt
          have hly9 := hy9.lt
          have hF := hide (fin4 w9 w.heap.size (.slice A9 n9 c9) (.slice A9 n9 c9) (.slice B p d) (.slice E q f))
          have ho9' := hide ho9
          have hg9h := hide hg9'
          have hB9' := hide hB9
          have hown9 := hide (fun k hk => (ho9.lt k hk).1)
          clear ho9 hg9' hB9 hx9 hy9 hg9 hb9 hx5 hy5 hx4 hy4 hx2 hy2 hg25 hg24 hg2 hB5 hB4 hb24 hb25 hb2 ho5 ho4
          go_wp2
          refine bodyPost_ret (v := .agg #[.slice A9 n9 c9, .slice B p d, .slice E q f]) (by simp [results, Tryd.results50, go_sem, yy0, yy1, yy2, yg0, yg1, yg2]) rfl ⟨A9, n9, c9, B, p, d, E, q, f, rfl, ⟨?_, ?_, ?_, ho9'.out.ad⟩, hF.out.2.2 w hB9'.out⟩
          · have h1 := ho9'.out.keep (w' := ((((w9.setCell ⟨w.heap.size, 0, none⟩ (.slice A9 n9 c9)).setCell ⟨w.heap.size + 1, 0, none⟩ (.slice A9 n9 c9)).setCell ⟨w.heap.size + 1, 1, none⟩ (.slice B p d)).setCell ⟨w.heap.size + 1, 2, none⟩ (.slice E q f))) (fun b hb => hF.out.1 b (by have := hown9.out b hb; omega) (by have := hown9.out b hb; omega))
            exact h1.rdD encEnt_len (fun b hb1 hb2 => .inr ⟨by omega, hb2⟩)
          · exact (hg9h.out.fl.keep (fun b hb => hF.out.1 b (by have := hD b hb; omega) (by have := hD b hb; omega))).mono (fun b hb => .inl hb)
          · exact (hg9h.out.la.keep (fun b hb => hF.out.1 b (by have := hD b hb; omega) (by have := hD b hb; omega))).mono (fun b hb => .inl hb)
end Go.Proofs.YtajmfonepnkofaaDoor
namespace Go.Proofs.YtajmfonepnkofaaDoor
open Go.RowKit Rg
set_option linter.unusedVariables false
set_option linter.unusedSimpArgs false

/-- Changes in blocks x and y alone. -/
structure Onl (x y : Nat) (w w' : World) : Prop where
  blk : ∀ b, b ≠ x → b ≠ y → w'.heap[b]? = w.heap[b]?
  size : w'.heap.size = w.heap.size
  bel : ∀ (B : Nat) (a : World), B ≤ x → B ≤ y → Below B a w → Below B a w'
theorem Onl.refl (x y : Nat) (w : World) : Onl x y w w := ⟨fun _ _ _ => rfl, rfl, fun _ _ _ _ h => h⟩
theorem Onl.set {x y : Nat} {w w' : World} (h : Onl x y w w') {p : Addr} (hp : p.block = x ∨ p.block = y) (v : Value) : Onl x y w (w'.setCell p v) :=
  ⟨fun b h1 h2 => (Below.heap_setCell w' p v b (by rcases hp with e | e <;> rw [e] <;> assumption)).trans (h.blk b h1 h2), by simp [h.size], fun B a h1 h2 hb => (h.bel B a h1 h2 hb).setCell (by rcases hp with e | e <;> omega) v⟩
theorem Onl.drew {x y : Nat} {w w' : World} (h : Onl x y w w') : Onl x y w w'.drew := ⟨h.blk, h.size, fun B a h1 h2 hb => (h.bel B a h1 h2 hb).drew⟩
theorem Onl.drewL (x y : Nat) (w : World) : Onl x y w.drew w := ⟨fun _ _ _ => rfl, rfl, fun _ _ _ _ h => ⟨h.os, h.tape, h.output, h.size, h.block⟩⟩
/-- A game and a number. -/
def GmPost2 (w : World) (D : Nat → Prop) (gc : GameT × Int) (e : Ending) (w' : World) : Prop := ∃ (A : Option Addr) (n c : Nat) (B : Option Addr) (p d : Nat) (E : Option Addr) (q f : Nat),
  e = .returned (.tuple #[.agg #[.slice A n c, .slice B p d, .slice E q f], .int .i64 gc.2]) ∧ GmD w' (Dn D w w') A n c B p d E q f gc.1 ∧ Below w.heap.size w w'
section
variable {w w9 w' : World} {D D' : Nat → Prop} {x y : Nat} {A : Option Addr} {n c : Nat} {B : Option Addr} {p d : Nat} {E : Option Addr} {q f : Nat} {g : GameT}
theorem gm_fin (hO : Onl x y w9 w') (hB : Below w.heap.size w w9) (hx : w.heap.size ≤ x) (hy : w.heap.size ≤ y) (hg : GmD w9 D' A n c B p d E q f g)
    (hD : ∀ b, D' b → b ≠ x ∧ b ≠ y ∧ (D b ∨ w.heap.size ≤ b ∧ b < w9.heap.size)) : GmD w' (Dn D w w') A n c B p d E q f g ∧ Below w.heap.size w w' :=
  ⟨(hg.keep fun b hb => hO.blk b (hD b hb).1 (hD b hb).2.1).mono fun b hb => by
    rcases (hD b hb).2.2 with h | h
    · exact .inl h
    · exact .inr ⟨h.1, by rw [hO.size]; exact h.2⟩, hO.bel _ _ hx hy hB⟩
theorem GmPost2.fin (code : Int) (hO : Onl x y w9 w') (hB : Below w.heap.size w w9) (hx : w.heap.size ≤ x) (hy : w.heap.size ≤ y) (hg : GmD w9 D' A n c B p d E q f g)
    (hD : ∀ b, D' b → b ≠ x ∧ b ≠ y ∧ (D b ∨ w.heap.size ≤ b ∧ b < w9.heap.size)) :
    GmPost2 w D (g, code) (.returned (.tuple #[.agg #[.slice A n c, .slice B p d, .slice E q f], .int .i64 code])) w' :=
  ⟨A, n, c, B, p, d, E, q, f, rfl, (gm_fin hO hB hx hy hg hD).1, (gm_fin (D := D) hO hB hx hy hg hD).2⟩
end
/-- The boxes of a step: the game it got, and the one it returns. -/
structure Gs (w w2 : World) (V0 V1 V2 : Value) : Prop where
  bx : Bx3 w2 w.heap.size V0 V1 V2 35
  ry : Bx3 w2 (w.heap.size + 1) (.slice none 0 0) (.slice none 0 0) (.slice none 0 0) 35
  sz : w.heap.size + 1 + 1 ≤ w2.heap.size
  bel : Below w.heap.size w w2
section
variable {w w2 w3 : World} {V0 V1 V2 : Value}
theorem Gs.made (w : World) (V0 V1 V2 : Value) : Gs w ((w.alloc (.cells #[V0, V1, V2] 35)).alloc (.cells #[.slice none 0 0, .slice none 0 0, .slice none 0 0] 35)) V0 V1 V2 := by
  have h1 := Bx3.made w V0 V1 V2 35
  have h2 := Bx3.made (w.alloc (.cells #[V0, V1, V2] 35)) (.slice none 0 0) (.slice none 0 0) (.slice none 0 0) 35
  exact ⟨h1.below ((Below.refl _ _).alloc (Nat.le_refl _) _) h1.lt, by simpa only [World.size_alloc] using h2, by simp, ((Below.refl w.heap.size w).alloc (Nat.le_refl _) _).alloc (by simp) _⟩
theorem Gs.below {K : Nat} (h : Gs w w2 V0 V1 V2) (hb : Below K w2 w3) (hK : w.heap.size + 1 + 1 ≤ K) : Gs w w3 V0 V1 V2 :=
  ⟨h.bx.below hb (by omega), h.ry.below hb (by omega), Nat.le_trans h.sz hb.size, h.bel.trans (hb.mono (by omega))⟩
theorem Gs.drew (h : Gs w w2 V0 V1 V2) : Gs w w2.drew V0 V1 V2 := ⟨h.bx, h.ry, h.sz, h.bel.drew⟩
theorem Gs.other (h : Gs w w2 V0 V1 V2) {a : Addr} (ha : w.heap.size + 1 + 1 ≤ a.block) (u : Value) : Gs w (w2.setCell a u) V0 V1 V2 :=
  h.below ((Below.refl (w.heap.size + 1 + 1) w2).setCell ha u) (Nat.le_refl _)
theorem Gs.set0 (h : Gs w w2 V0 V1 V2) (u : Value) : Gs w (w2.setCell ⟨w.heap.size, 0, none⟩ u) u V1 V2 :=
  ⟨h.bx.set0 u, h.ry.keep (Below.heap_setCell w2 ⟨w.heap.size, 0, none⟩ u _ (by show w.heap.size + 1 ≠ w.heap.size; omega)), by simpa using h.sz, h.bel.setCell (Nat.le_refl _) u⟩
theorem Gs.set1 (h : Gs w w2 V0 V1 V2) (u : Value) : Gs w (w2.setCell ⟨w.heap.size, 1, none⟩ u) V0 u V2 :=
  ⟨h.bx.set1 u, h.ry.keep (Below.heap_setCell w2 ⟨w.heap.size, 1, none⟩ u _ (by show w.heap.size + 1 ≠ w.heap.size; omega)), by simpa using h.sz, h.bel.setCell (Nat.le_refl _) u⟩
theorem Gs.set2 (h : Gs w w2 V0 V1 V2) (u : Value) : Gs w (w2.setCell ⟨w.heap.size, 2, none⟩ u) V0 V1 u :=
  ⟨h.bx.set2 u, h.ry.keep (Below.heap_setCell w2 ⟨w.heap.size, 2, none⟩ u _ (by show w.heap.size + 1 ≠ w.heap.size; omega)), by simpa using h.sz, h.bel.setCell (Nat.le_refl _) u⟩
end
theorem Own.rdG {α : Type} {enc : α → List Value} {sz lo : Nat} {e : TypeId} {w : World} {xs : List α} {D : Nat → Prop} (hl : ∀ x, (enc x).length = sz) {g n c : Nat} (h : Own enc sz e w lo (.slice (some ⟨g, 0, none⟩) n c) xs) (hD : D g) : RdD enc sz w D (some ⟨g, 0, none⟩) n c xs := by
  obtain ⟨h1, h2, h3⟩ := h.slAt hl
  refine ⟨h1, h2, h.cap.2, fun hne => ?_⟩
  obtain ⟨b, off, e, _, _, h6⟩ := h3 hne
  injection e with e
  injection e with e1 e2
  subst e1; subst e2
  exact ⟨g, 0, rfl, hD, h6⟩
/-- A slice of the call's own that is not empty. -/
theorem Own.at0 {α : Type} {enc : α → List Value} {sz lo : Nat} {e : TypeId} {w : World} {v : Value} {xs : List α} (h : Own enc sz e w lo v xs) (hx : 0 < xs.length) : ∃ g c, v = .slice (some ⟨g, 0, none⟩) xs.length c ∧ lo ≤ g ∧ g < w.heap.size ∧ xs.length ≤ c ∧ c ≤ maxLen := by
  obtain ⟨A, c, rfl, h1, h2, _⟩ := h.form
  obtain ⟨g, rfl, h3, h4⟩ := h.addrAt hx
  exact ⟨g, c, rfl, h3, h4, h1, h2⟩
theorem flatMap_set1 {α : Type} {enc : α → List Value} {sz : Nat} (hl : ∀ x, (enc x).length = sz) (u : Value) (j : Nat) (hj : j < sz) : ∀ (xs : List α) (i : Nat) (x : α) (h : i < xs.length), enc x = (enc xs[i]).set j u → (xs.set i x).flatMap enc = (xs.flatMap enc).set (i * sz + j) u
  | [], i, x, h, _ => by simp at h
  | y :: xs, 0, x, h, hx => by
    simp only [List.set_cons_zero, List.flatMap_cons, List.getElem_cons_zero, Nat.zero_mul, Nat.zero_add] at hx ⊢
    rw [List.set_append_left _ _ (by rw [hl]; exact hj), hx]
  | y :: xs, i + 1, x, h, hx => by
    have ih := flatMap_set1 hl u j hj xs i x (by simpa using h) (by simpa using hx)
    simp only [List.set_cons_succ, List.flatMap_cons, ih]
    rw [List.set_append_right _ _ (by rw [hl, Nat.add_mul]; omega), hl, Nat.add_mul, show i * sz + 1 * sz + j - sz = i * sz + j by omega]
/-- One cell of an element, written. -/
theorem Own.put1 {α : Type} {enc : α → List Value} {sz lo : Nat} {e : TypeId} {w : World} {xs : List α} (hl : ∀ x, (enc x).length = sz) {g n c : Nat} (h : Own enc sz e w lo (.slice (some ⟨g, 0, none⟩) n c) xs) {i : Nat} (hi : i < xs.length) (x : α) (j : Nat) (hj : j < sz) (u : Value) (hx : enc x = (enc xs[i]).set j u) :
    Own enc sz e (w.setCell ⟨g, i * sz + j, none⟩ u) lo (.slice (some ⟨g, 0, none⟩) n c) (xs.set i x) := by
  obtain ⟨rfl, hg, cur, hh, h1, h2, h3, h4⟩ := h.row
  have h5 : (w.setCell ⟨g, i * sz + j, none⟩ u).heap[g]? = some (.cells (cur.setIfInBounds (i * sz + j) u) e (0, 0)) := by
    simp [World.setCell, Array.getElem?_modify, hh]
  have hz : (xs.set i x).length = xs.length := by simp
  have := Own.of_row (enc := enc) (sz := sz) (xs := xs.set i x) (c := c) hg h5 (by omega) h2 (by simpa using h3) (by
    rw [hz, flatMap_set1 hl u j hj xs i x hi hx, ← h4, Array.toList_setIfInBounds, List.take_set])
  rwa [hz] at this
def optI (m : Option Nat) : Int := match m with | some n => (n : Int) | none => -1
theorem atI_opt (es : List EntT) (c : Int) : atI es c = optI (figI es c) := by unfold atI optI; cases figI es c <;> rfl
/-- What a hit does. -/
def hitG (g : GameT) (k : Nat) : Option Nat → GameT × Int
  | none => (g, 8)
  | some n => if n = k ∨ ¬ nearE (g.1.getD k ent0) (g.1.getD n ent0) then (g, 8)
    else if (g.1.getD n ent0).2.2.2.1 - 1 ≤ 0 then ((g.1.eraseIdx n, g.2.1.set (sqr (g.1.getD n ent0)) (g.2.1.getD (sqr (g.1.getD n ent0)) 0 + (g.1.getD n ent0).2.2.2.2), g.2.2), 0)
    else ((g.1.set n (hitE (g.1.getD n ent0)), g.2.1, g.2.2), 0)
theorem hitG_other (g : GameT) (k n : Nat) (r : AskT) (h : r.2.2.1 ≠ 5) : other g k n r = hitG g k (some n) := by
  unfold other hitG
  simp only [h, if_false]
theorem hitG_none (g : GameT) (k : Nat) : hitG g k none = (g, 8) := rfl
theorem hitG_self {g : GameT} {k n : Nat} (h : n = k) : hitG g k (some n) = (g, 8) := by simp [hitG, h]
theorem hitG_far {g : GameT} {k n : Nat} (hk : k < g.1.length) (hn : n < g.1.length) (h : ¬ nearE g.1[k] g.1[n]) : hitG g k (some n) = (g, 8) := by simp [hitG, List.getD, List.getElem?_eq_getElem hk, List.getElem?_eq_getElem hn, h]
theorem hitG_hit {g : GameT} {k n : Nat} (hk : k < g.1.length) (hn : n < g.1.length) (hne : n ≠ k) (h : nearE g.1[k] g.1[n]) (hl : ¬ g.1[n].2.2.2.1 - 1 ≤ 0) : hitG g k (some n) = ((g.1.set n (hitE g.1[n]), g.2.1, g.2.2), 0) := by
  simp only [hitG, getD_at hk, getD_at hn, hne, h, not_true, or_false, if_false, hl]
theorem hitG_drop {g : GameT} {k n : Nat} (hk : k < g.1.length) (hn : n < g.1.length) (hne : n ≠ k) (h : nearE g.1[k] g.1[n]) (hl : g.1[n].2.2.2.1 - 1 ≤ 0) : hitG g k (some n) = ((g.1.eraseIdx n, g.2.1.set (sqr g.1[n]) (g.2.1.getD (sqr g.1[n]) 0 + g.1[n].2.2.2.2), g.2.2), 0) := by
  simp only [hitG, getD_at hk, getD_at hn, hne, h, not_true, or_false, if_false, hl, if_true]
theorem erase_set {α : Type} : ∀ (l : List α) (n : Nat) (x : α), (l.set n x).eraseIdx n = l.eraseIdx n
  | [], _, _ => rfl
  | _ :: _, 0, _ => rfl
  | a :: l, n + 1, x => by simp only [List.set_cons_succ, List.eraseIdx_cons_succ, erase_set l n x]
theorem okD.setE {g : GameT} (h : okD g) {n : Nat} (hn : n < g.1.length) {e : EntT} (h1 : e.1 = g.1[n].1) (h2 : rng e.2.1 0 3 ∧ rng e.2.2.1 0 3 ∧ rng e.2.2.2.2 0 20) : okD (g.1.set n e, g.2.1, g.2.2) :=
  ⟨fun x hx => by
    rcases set_mem hx with rfl | hx
    · exact ⟨by rw [h1]; exact (h.ent _ (List.getElem_mem hn)).1, h2⟩
    · exact h.ent x hx, inc_set h.inc n e hn (by rw [h1, getD_at hn]), h.flo, h.n16⟩

set_option maxRecDepth 100000 in
set_option maxHeartbeats 2000000 in
theorem l2Hit_c (A : Option Addr) (n c : Nat) (B : Option Addr) (p d : Nat) (E : Option Addr) (q f : Nat) (D : Nat → Prop) (g : GameT) (k : Nat) (m : Option Nat) (w : World) (hg : GmD w D A n c B p d E q f g) (hD : ∀ b, D b → b < w.heap.size) (hok : okG' g) (hk : k < g.1.length) (hm : ∀ i, m = some i → i < g.1.length) :
    Calls Tryd.prog 79 #[.agg #[.slice A n c, .slice B p d, .slice E q f], .int .i64 (k : Int), .int .i64 (optI m)] w fun e w' => GmPost2 w D (hitG g k m) e w' := by
  have hs2 := Gs.made w (.slice A n c) (.slice B p d) (.slice E q f)
  have hg2 := hg.below hs2.bel hD
  have hn' := hide hg.en.len
  have hc1 := hg.en.cap
  have hc2 := hg.en.max
  unfold maxLen at hc2
  have hkn : k < n := by have := hn'.out; omega
  have hn4 : Hid (n ≤ 4) := hide (by
    have h1 := hok.ent
    have h3 := inc_len hok.inc (fun e he => (h1 e he).1)
    have := hn'.out
    omega)
  obtain ⟨b, off, rfl, hDb⟩ := hg.en.addr hk
  have hbw := hD b hDb
  clear hg
  cases m with
  | none =>
    rw [hitG_none]
    unfold optI
    dsimp only
    obtain ⟨xx0, xx1, xx2, xf0, xf1, xf2⟩ := hs2.bx.cells
    obtain ⟨yy0, yy1, yy2, yg0, yg1, yg2⟩ := hs2.ry.cells
    have hz2 := hs2.sz
    go_enter Tryd.func79, Tryd.ntmps79
    go_wp2
    generalize ((w.alloc (.cells #[.slice (some ⟨b, off, none⟩) n c, .slice B p d, .slice E q f] 35)).alloc (.cells #[.slice none 0 0, .slice none 0 0, .slice none 0 0] 35)) = w2 at *
    refine wp_region_T (fun _ => True) [] [] [] [0, 1, 2, 3, 4, 5, 6, 7, 8, 9, 10, 11, 12, 13, 14, 15, 16, 17, 18, 19, 20] (by kernel_rfl) (by kernel_rfl) (by kernel_rfl) trivial ?_; simp only [pickL, List.getElem?_cons_succ, List.getElem?_cons_zero]
    go_wp2_with (first
      | ((with_reducible refine wpT_q0 ?_ ?_ ?_ ?_); (focus rfl); (focus rfl); (focus rfl); intro K hK) | ((with_reducible refine wpT_x0 ?_ ?_ ?_); (focus rfl); (focus rfl); intro K hK) | ((with_reducible refine wpT_noL ?_ ?_); (focus (first | exact wanted_no _ _ _ rfl rfl rfl | exact wanted_un _ _ _ rfl rfl rfl)); simp only [setO, List.set_cons_succ, List.set_cons_zero]) | ((with_reducible refine wpT_q1 ?_ ?_ ?_ ?_); (focus exact wanted_yes _ _ _ rfl rfl rfl); (focus rfl); (focus rfl); intro K hK) | ((with_reducible refine wpT_x1 ?_ ?_ ?_); (focus exact wanted_yes _ _ _ rfl rfl rfl); (focus rfl); intro K hK) | ((with_reducible refine wpT_nil ?_); try dsimp only)
      | fail)
    refine bodyPost_ret (v := .tuple #[.agg #[.slice (some ⟨b, off, none⟩) n c, .slice B p d, .slice E q f], .int .i64 8]) (by simp [results, Tryd.results79, go_sem, yy0, yy1, yy2, yg0, yg1, yg2]) rfl (GmPost2.fin (x := w.heap.size) (y := w.heap.size + 1) (w9 := w2) (D' := D) 8 (by (repeat (first | (with_reducible exact Onl.refl _ _ _) | (with_reducible exact Onl.drewL _ _ _) | (with_reducible refine Onl.set ?_ (by simp) _) | with_reducible refine Onl.drew ?_))) hs2.bel (Nat.le_refl _) (Nat.le_succ _) hg2 (fun b hb => by have := hD b hb; exact ⟨by omega, by omega, .inl hb⟩))
  | some i =>
    have hi := hm i rfl
    have hin : i < n := by have := hn'.out; omega
    unfold optI
    dsimp only
    by_cases hik : i = k
    · rw [hitG_self hik]
      have hik' : (((k : Nat) : Int) == ((i : Nat) : Int)) = true := by simp [hik]
      have hik2 : (((i : Nat) : Int) == ((k : Nat) : Int)) = true := by simp [hik]
      have hikh := hide hik
      clear hik
      obtain ⟨xx0, xx1, xx2, xf0, xf1, xf2⟩ := hs2.bx.cells
      obtain ⟨yy0, yy1, yy2, yg0, yg1, yg2⟩ := hs2.ry.cells
      have hz2 := hs2.sz
      go_enter Tryd.func79, Tryd.ntmps79
      go_wp2
      generalize ((w.alloc (.cells #[.slice (some ⟨b, off, none⟩) n c, .slice B p d, .slice E q f] 35)).alloc (.cells #[.slice none 0 0, .slice none 0 0, .slice none 0 0] 35)) = w2 at *
      refine wp_region_T (fun _ => True) [] [] [] [0, 1, 2, 3, 4, 5, 6, 7, 8, 9, 10, 11, 12, 13, 14, 15, 16, 17, 18, 19, 20] (by kernel_rfl) (by kernel_rfl) (by kernel_rfl) trivial ?_; simp only [pickL, List.getElem?_cons_succ, List.getElem?_cons_zero]
      go_wp2_with (first
        | ((with_reducible refine wpT_q0 ?_ ?_ ?_ ?_); (focus rfl); (focus rfl); (focus rfl); intro K hK) | ((with_reducible refine wpT_x0 ?_ ?_ ?_); (focus rfl); (focus rfl); intro K hK) | ((with_reducible refine wpT_noL ?_ ?_); (focus (first | exact wanted_no _ _ _ rfl rfl rfl | exact wanted_un _ _ _ rfl rfl rfl)); simp only [setO, List.set_cons_succ, List.set_cons_zero]) | ((with_reducible refine wpT_q1 ?_ ?_ ?_ ?_); (focus exact wanted_yes _ _ _ rfl rfl rfl); (focus rfl); (focus rfl); intro K hK) | ((with_reducible refine wpT_x1 ?_ ?_ ?_); (focus exact wanted_yes _ _ _ rfl rfl rfl); (focus rfl); intro K hK) | ((with_reducible refine wpT_nil ?_); try dsimp only)
        | fail)
      refine bodyPost_ret (v := .tuple #[.agg #[.slice (some ⟨b, off, none⟩) n c, .slice B p d, .slice E q f], .int .i64 8]) (by simp [results, Tryd.results79, go_sem, yy0, yy1, yy2, yg0, yg1, yg2]) rfl (GmPost2.fin (x := w.heap.size) (y := w.heap.size + 1) (w9 := w2) (D' := D) 8 (by (repeat (first | (with_reducible exact Onl.refl _ _ _) | (with_reducible exact Onl.drewL _ _ _) | (with_reducible refine Onl.set ?_ (by simp) _) | with_reducible refine Onl.drew ?_))) hs2.bel (Nat.le_refl _) (Nat.le_succ _) hg2 (fun b hb => by have := hD b hb; exact ⟨by omega, by omega, .inl hb⟩))
    · have hik' : (((k : Nat) : Int) == ((i : Nat) : Int)) = false := by simp; omega
      have hik2 : (((i : Nat) : Int) == ((k : Nat) : Int)) = false := by simp; omega
      have hikh := hide hik
      clear hik
      have hek := hok.ent _ (List.getElem_mem hk)
      have hei := hok.ent _ (List.getElem_mem hi)
      obtain ⟨a0, a1, a2, a3, a4⟩ := hg2.en.ent hk
      obtain ⟨b0, b1, b2, b3, b4⟩ := hg2.en.ent hi
      obtain ⟨xx0, xx1, xx2, xf0, xf1, xf2⟩ := hs2.bx.cells
      obtain ⟨yy0, yy1, yy2, yg0, yg1, yg2⟩ := hs2.ry.cells
      have hz2 := hs2.sz
      have hok' := hide hok
      clear hok
      cases e1 : decide (nearE g.1[k] g.1[i])
      · have hno := hide (show ¬ nearE g.1[k] g.1[i] by simpa using e1)
        rw [hitG_far hk hi hno.out]
        go_enter Tryd.func79, Tryd.ntmps79
        go_wp2
        generalize ((w.alloc (.cells #[.slice (some ⟨b, off, none⟩) n c, .slice B p d, .slice E q f] 35)).alloc (.cells #[.slice none 0 0, .slice none 0 0, .slice none 0 0] 35)) = w2 at *
        refine wp_region_T (fun _ => True) [] [] [] [0, 1, 2, 3, 4, 5, 6, 7, 8, 9, 10, 11, 12, 13, 14, 15, 16, 17, 18, 19, 20] (by kernel_rfl) (by kernel_rfl) (by kernel_rfl) trivial ?_; simp only [pickL, List.getElem?_cons_succ, List.getElem?_cons_zero]
        go_wp2_with (first
          | ((with_reducible refine wpT_q0 ?_ ?_ ?_ ?_); (focus rfl); (focus rfl); (focus rfl); intro K hK) | ((with_reducible refine wpT_x0 ?_ ?_ ?_); (focus rfl); (focus rfl); intro K hK) | ((with_reducible refine wpT_noL ?_ ?_); (focus (first | exact wanted_no _ _ _ rfl rfl rfl | exact wanted_un _ _ _ rfl rfl rfl)); simp only [setO, List.set_cons_succ, List.set_cons_zero]) | ((with_reducible refine wpT_q1 ?_ ?_ ?_ ?_); (focus exact wanted_yes _ _ _ rfl rfl rfl); (focus rfl); (focus rfl); intro K hK) | ((with_reducible refine wpT_x1 ?_ ?_ ?_); (focus exact wanted_yes _ _ _ rfl rfl rfl); (focus rfl); intro K hK) | ((with_reducible refine wpT_nil ?_); try dsimp only)
          | (go_at_call 80; refine (l2Near_c g.1[k] g.1[i] _ ⟨hek.2.1, hek.2.2.1⟩ ⟨hei.2.1, hei.2.2.1⟩).mono ?_; rintro e w3 ⟨rfl, hb3⟩; have hb23 : Below w2.heap.size w2 w3 := (Below.drew (Below.refl _ _)).trans hb3; have hs3 := hs2.below hb23 hz2; have hg3 := hg2.below hb23 (fun b hb => by have := hD b hb; omega); clear xx0 xx1 xx2 xf0 xf1 xf2 yy0 yy1 yy2 yg0 yg1 yg2; obtain ⟨xx0, xx1, xx2, xf0, xf1, xf2⟩ := hs3.bx.cells; obtain ⟨yy0, yy1, yy2, yg0, yg1, yg2⟩ := hs3.ry.cells)
          | fail)
        refine bodyPost_ret (v := .tuple #[.agg #[.slice (some ⟨b, off, none⟩) n c, .slice B p d, .slice E q f], .int .i64 8]) (by simp [results, Tryd.results79, go_sem, yy0, yy1, yy2, yg0, yg1, yg2]) rfl (GmPost2.fin (x := w.heap.size) (y := w.heap.size + 1) (w9 := w3) (D' := D) 8 (by (repeat (first | (with_reducible exact Onl.refl _ _ _) | (with_reducible exact Onl.drewL _ _ _) | (with_reducible refine Onl.set ?_ (by simp) _) | with_reducible refine Onl.drew ?_))) hs3.bel (Nat.le_refl _) (Nat.le_succ _) hg3 (fun b hb => by have := hD b hb; exact ⟨by omega, by omega, .inl hb⟩))
      · have hyes := hide (show nearE g.1[k] g.1[i] by simpa using e1)
        go_enter Tryd.func79, Tryd.ntmps79
        go_wp2
        generalize ((w.alloc (.cells #[.slice (some ⟨b, off, none⟩) n c, .slice B p d, .slice E q f] 35)).alloc (.cells #[.slice none 0 0, .slice none 0 0, .slice none 0 0] 35)) = w2 at *
        refine wp_region_T (fun _ => True) [] [] [] [0, 1, 2, 3, 4, 5, 6, 7, 8, 9, 10, 11, 12, 13, 14, 15, 16, 17, 18, 19, 20] (by kernel_rfl) (by kernel_rfl) (by kernel_rfl) trivial ?_; simp only [pickL, List.getElem?_cons_succ, List.getElem?_cons_zero]
        go_wp2_with (first
          | ((with_reducible refine wpT_q0 ?_ ?_ ?_ ?_); (focus rfl); (focus rfl); (focus rfl); intro K hK) | ((with_reducible refine wpT_x0 ?_ ?_ ?_); (focus rfl); (focus rfl); intro K hK) | ((with_reducible refine wpT_noL ?_ ?_); (focus (first | exact wanted_no _ _ _ rfl rfl rfl | exact wanted_un _ _ _ rfl rfl rfl)); simp only [setO, List.set_cons_succ, List.set_cons_zero]) | ((with_reducible refine wpT_q1 ?_ ?_ ?_ ?_); (focus exact wanted_yes _ _ _ rfl rfl rfl); (focus rfl); (focus rfl); intro K hK) | ((with_reducible refine wpT_x1 ?_ ?_ ?_); (focus exact wanted_yes _ _ _ rfl rfl rfl); (focus rfl); intro K hK) | ((with_reducible refine wpT_nil ?_); try dsimp only)
          | (go_at_call 80; refine (l2Near_c g.1[k] g.1[i] _ ⟨hek.2.1, hek.2.2.1⟩ ⟨hei.2.1, hei.2.2.1⟩).mono ?_; rintro e w3 ⟨rfl, hb3⟩; have hb23 : Below w2.heap.size w2 w3 := (Below.drew (Below.refl _ _)).trans hb3; have hs3 := hs2.below hb23 hz2; have hg3 := hg2.below hb23 (fun b hb => by have := hD b hb; omega); clear xx0 xx1 xx2 xf0 xf1 xf2 yy0 yy1 yy2 yg0 yg1 yg2; obtain ⟨xx0, xx1, xx2, xf0, xf1, xf2⟩ := hs3.bx.cells; obtain ⟨yy0, yy1, yy2, yg0, yg1, yg2⟩ := hs3.ry.cells; have hz3 := hs3.sz; have hlx3 := hs3.bx.lt; have hly3 := hs3.ry.lt; have hown3 := own_empty encEnt 5 82 w3; have hA3 := (Below.refl w3.heap.size w3).alloc (Nat.le_refl _) (.cells #[] 82); have hsl3 : Hid (Sl encEnt 5 (w3.alloc (.cells #[] 82)) 0 w.heap.size (some ⟨b, off, none⟩) g.1) := hide ((hg3.en.sl hD).below hA3 (by omega)))
          | (at_builtin; refine wpList_app encEnt_len (by omega) encEnt_one rfl _ _ 33 rfl 82 _ 40 Tryd.underlying33 infoEnt rfl w3.heap.size _ [] rfl hown3 0 w.heap.size _ g.1 _ _ rfl hn'.out hsl3.out (by have h1 := hn4.out; have h2 := hn'.out; simp only [List.length_nil, maxLen]; omega) (by simp) ?_)
          | fail)
        intro v4 w4 ho4 hgr4 hb4
        try rw [List.nil_append] at ho4
        obtain ⟨g4, c4, rfl, hg41, hg42, hc41, hc42⟩ := ho4.at0 (by omega)
        rw [← hn'.out] at ho4 hc41 ⊢
        unfold maxLen at hc42
        have hb34 := hA3.trans hb4
        have hs4 := hs3.below hb34 hz3
        have hg4 := hg3.below hb34 (fun b hb => by have := hD b hb; omega)
        have hz4 := hs4.sz
        clear xx0 xx1 xx2 xf0 xf1 xf2 yy0 yy1 yy2 yg0 yg1 yg2 hown3 hA3 hsl3 hgr4 hb4 hs3 hg3 hb3 hb23 hs2 hg2 a0 a1 a2 a3 a4 b0 b1 b2 b3 b4
        obtain ⟨xx0, xx1, xx2, xf0, xf1, xf2⟩ := hs4.bx.cells
        go_wp2
        have hs5 := hs4.set0 (.slice (some ⟨g4, 0, none⟩) n c4)
        have hg5 := hg4.keep (w' := w4.setCell ⟨w.heap.size, 0, none⟩ (.slice (some ⟨g4, 0, none⟩) n c4)) (fun b hb => Below.heap_setCell w4 ⟨w.heap.size, 0, none⟩ _ b (by have := hD b hb; show b ≠ w.heap.size; omega))
        have ho5 := ho4.keep (w' := w4.setCell ⟨w.heap.size, 0, none⟩ (.slice (some ⟨g4, 0, none⟩) n c4)) (fun b hb => Below.heap_setCell w4 ⟨w.heap.size, 0, none⟩ _ b (by simp [Value.ownBlock] at hb; show b ≠ w.heap.size; omega))
        have hz45 : (w4.setCell ⟨w.heap.size, 0, none⟩ (.slice (some ⟨g4, 0, none⟩) n c4)).heap.size = w4.heap.size := by simp
        have hz45' := hide hz45
        clear xx0 xx1 xx2 xf0 xf1 xf2 hs4 hg4 ho4 hz45
        generalize w4.setCell ⟨w.heap.size, 0, none⟩ (.slice (some ⟨g4, 0, none⟩) n c4) = w5 at *
        obtain ⟨xx0, xx1, xx2, xf0, xf1, xf2⟩ := hs5.bx.cells
        obtain ⟨yy0, yy1, yy2, yg0, yg1, yg2⟩ := hs5.ry.cells
        have hg45 : g4 < w5.heap.size := by rw [hz45'.out]; omega
        obtain ⟨d0, d1, d2, d3, d4⟩ := (ho5.slAt encEnt_len).2.2.getEnt hi
        simp only [Nat.zero_add] at d0 d1 d2 d3 d4
        have df := ho5.frozen (i * 5 + 3)
        have ho6 := ho5.put1 encEnt_len hi (hitE g.1[i]) 3 (by omega) (.int .i64 (g.1[i].2.2.2.1 - 1)) rfl
        have hne1 : ¬ w.heap.size = g4 := by omega
        have hne2 : ¬ g4 = w.heap.size := by omega
        have hne3 : ¬ w.heap.size + 1 = g4 := by omega
        have hne4 : ¬ g4 = w.heap.size + 1 := by omega
        have hlw5 : w.heap.size < w5.heap.size := hs5.bx.lt
        have hly5 : w.heap.size + 1 < w5.heap.size := hs5.ry.lt
        have hei4 := hei.2.2.2.1
        unfold rng at hei4
        have hS6 : ∀ b, b ≠ g4 → (w5.setCell ⟨g4, i * 5 + 3, none⟩ (.int .i64 (g.1[i].2.2.2.1 - 1))).heap[b]? = w5.heap[b]? := fun b h => Below.heap_setCell w5 ⟨g4, i * 5 + 3, none⟩ _ b h
        have hs6 := (hs5.other (a := ⟨g4, i * 5 + 3, none⟩) (by show _ ≤ g4; omega) (.int .i64 (g.1[i].2.2.2.1 - 1))).drew
        have hg6 := hg5.keep (w' := (w5.setCell ⟨g4, i * 5 + 3, none⟩ (.int .i64 (g.1[i].2.2.2.1 - 1))).drew) (fun b hb => hS6 b (by have := hD b hb; omega))
        have hz56 : (w5.setCell ⟨g4, i * 5 + 3, none⟩ (.int .i64 (g.1[i].2.2.2.1 - 1))).heap.size = w5.heap.size := by simp
        have ho6' := hide ho6.drew
        have hs6' := hide hs6
        have hg6' := hide hg6
        have hz56' := hide hz56
        clear ho5 hs5 hg5 hs6 hg6 hS6 hz56 ho6
        cases e5 : decide (g.1[i].2.2.2.1 - 1 ≤ 0)
        · have hh := hide (hitG_hit hk hi hikh.out hyes.out (by simpa using e5))
          refine wp_region_T (fun _ => True) [] [] [] [0, 1, 2, 3, 4, 5, 6, 7, 8, 9, 10, 11, 12] (by kernel_rfl) (by kernel_rfl) (by kernel_rfl) trivial ?_; simp only [pickL, List.getElem?_cons_succ, List.getElem?_cons_zero]
          go_wp2_with (first
            | ((with_reducible refine wpT_q0 ?_ ?_ ?_ ?_); (focus rfl); (focus rfl); (focus rfl); intro K hK) | ((with_reducible refine wpT_x0 ?_ ?_ ?_); (focus rfl); (focus rfl); intro K hK) | ((with_reducible refine wpT_noL ?_ ?_); (focus (first | exact wanted_no _ _ _ rfl rfl rfl | exact wanted_un _ _ _ rfl rfl rfl)); simp only [setO, List.set_cons_succ, List.set_cons_zero]) | ((with_reducible refine wpT_q1 ?_ ?_ ?_ ?_); (focus exact wanted_yes _ _ _ rfl rfl rfl); (focus rfl); (focus rfl); intro K hK) | ((with_reducible refine wpT_x1 ?_ ?_ ?_); (focus exact wanted_yes _ _ _ rfl rfl rfl); (focus rfl); intro K hK) | ((with_reducible refine wpT_nil ?_); try dsimp only)
            | fail)
          refine bodyPost_ret (v := .tuple #[.agg #[.slice (some ⟨g4, 0, none⟩) n c4, .slice B p d, .slice E q f], .int .i64 0]) (by simp [results, Tryd.results79, go_sem, yy0, yy1, yy2, yg0, yg1, yg2, hne1, hne2, hne3, hne4]) rfl ?_
          rw [hh.out]
          refine GmPost2.fin (x := w.heap.size) (y := w.heap.size + 1) (w9 := (w5.setCell ⟨g4, i * 5 + 3, none⟩ (.int .i64 (g.1[i].2.2.2.1 - 1))).drew) (D' := fun b => D b ∨ b = g4) 0 (by (repeat (first | (with_reducible exact Onl.refl _ _ _) | (with_reducible exact Onl.drewL _ _ _) | (with_reducible refine Onl.set ?_ (by simp) _) | with_reducible refine Onl.drew ?_))) hs6'.out.bel (Nat.le_refl _) (Nat.le_succ _) ⟨?_, hg6'.out.fl.mono (fun b hb => .inl hb), hg6'.out.la.mono (fun b hb => .inl hb), .inr ⟨g4, 0, rfl⟩⟩ (fun b hb => ?_)
          · exact ho6'.out.rdG encEnt_len (.inr rfl)
          · have := hz56'.out
            rcases hb with hb | hb
            · have := hD b hb; exact ⟨by omega, by omega, .inl hb⟩
            · exact ⟨by omega, by omega, .inr ⟨by omega, by show _ < (w5.setCell ⟨g4, i * 5 + 3, none⟩ (.int .i64 (g.1[i].2.2.2.1 - 1))).heap.size; omega⟩⟩
        · have hh := hide (hitG_drop hk hi hikh.out hyes.out (by simpa using e5))
          have hgd := hide (show GmD (w5.setCell ⟨g4, i * 5 + 3, none⟩ (.int .i64 (g.1[i].2.2.2.1 - 1))).drew (fun b => D b ∨ b = g4) (some ⟨g4, 0, none⟩) n c4 B p d E q f (g.1.set i (hitE g.1[i]), g.2.1, g.2.2) from ⟨ho6'.out.rdG encEnt_len (.inr rfl), hg6'.out.fl.mono (fun b hb => .inl hb), hg6'.out.la.mono (fun b hb => .inl hb), .inr ⟨g4, 0, rfl⟩⟩)
          have hDD := hide (show ∀ b, (D b ∨ b = g4) → b < (w5.setCell ⟨g4, i * 5 + 3, none⟩ (.int .i64 (g.1[i].2.2.2.1 - 1))).drew.heap.size from fun b hb => by
            have := hz56'.out
            rcases hb with hb | hb
            · have := hD b hb; show b < (w5.setCell ⟨g4, i * 5 + 3, none⟩ (.int .i64 (g.1[i].2.2.2.1 - 1))).heap.size; omega
            · show b < (w5.setCell ⟨g4, i * 5 + 3, none⟩ (.int .i64 (g.1[i].2.2.2.1 - 1))).heap.size; omega)
          have hokd := hide (hok'.out.toD.setE hi (e := hitE g.1[i]) rfl ⟨hei.2.1, hei.2.2.1, hok'.out.gold hi⟩)
          have hge : Hid ((g.1.set i (hitE g.1[i]))[i]'(by simpa using hi) = hitE g.1[i]) := hide (by simp)
          refine wp_region_T (fun _ => True) [] [] [] [0, 1, 2, 3, 4, 5, 6, 7, 8, 9, 10, 11, 12] (by kernel_rfl) (by kernel_rfl) (by kernel_rfl) trivial ?_; simp only [pickL, List.getElem?_cons_succ, List.getElem?_cons_zero]
          go_wp2_with (first
            | ((with_reducible refine wpT_q0 ?_ ?_ ?_ ?_); (focus rfl); (focus rfl); (focus rfl); intro K hK) | ((with_reducible refine wpT_x0 ?_ ?_ ?_); (focus rfl); (focus rfl); intro K hK) | ((with_reducible refine wpT_noL ?_ ?_); (focus (first | exact wanted_no _ _ _ rfl rfl rfl | exact wanted_un _ _ _ rfl rfl rfl)); simp only [setO, List.set_cons_succ, List.set_cons_zero]) | ((with_reducible refine wpT_q1 ?_ ?_ ?_ ?_); (focus exact wanted_yes _ _ _ rfl rfl rfl); (focus rfl); (focus rfl); intro K hK) | ((with_reducible refine wpT_x1 ?_ ?_ ?_); (focus exact wanted_yes _ _ _ rfl rfl rfl); (focus rfl); intro K hK) | ((with_reducible refine wpT_nil ?_); try dsimp only)
            | fail)
          refine (l2Drop_c (some ⟨g4, 0, none⟩) n c4 B p d E q f (fun b => D b ∨ b = g4) (g.1.set i (hitE g.1[i]), g.2.1, g.2.2) i _ hgd.out hDD.out hokd.out (by simpa using hi)).mono ?_
          rintro e w7 ⟨A7, n7, c7, B7, p7, d7, E7, q7, f7, rfl, hg7, hb7⟩
          have hs7 := hs6'.out.below hb7 (hs6'.out.sz)
          clear xx0 xx1 xx2 xf0 xf1 xf2 yy0 yy1 yy2 yg0 yg1 yg2 d0 d1 d2 d3 d4 df
          obtain ⟨xx0, xx1, xx2, xf0, xf1, xf2⟩ := hs7.bx.cells
          obtain ⟨yy0, yy1, yy2, yg0, yg1, yg2⟩ := hs7.ry.cells
          have hlx7 := hs7.bx.lt
          have hly7 := hs7.ry.lt
          go_wp2
          refine bodyPost_ret (v := .tuple #[.agg #[.slice A7 n7 c7, .slice B7 p7 d7, .slice E7 q7 f7], .int .i64 0]) (by simp [results, Tryd.results79, go_sem, yy0, yy1, yy2, yg0, yg1, yg2]) rfl ?_
          rw [hh.out]
          try dsimp only at hg7
          rw [erase_set, hge.out] at hg7
          refine GmPost2.fin (x := w.heap.size) (y := w.heap.size + 1) (w9 := w7) (D' := Dn (fun b => D b ∨ b = g4) (w5.setCell ⟨g4, i * 5 + 3, none⟩ (.int .i64 (g.1[i].2.2.2.1 - 1))).drew w7) 0 (by (repeat (first | (with_reducible exact Onl.refl _ _ _) | (with_reducible exact Onl.drewL _ _ _) | (with_reducible refine Onl.set ?_ (by simp) _) | with_reducible refine Onl.drew ?_))) hs7.bel (Nat.le_refl _) (Nat.le_succ _) hg7 (fun b hb => ?_)
          have h9 := hs6'.out.sz
          have h10 := hs7.sz
          have h11 := hb7.size
          have h12 := hDD.out
          rcases hb with (hb | hb) | hb
          · have := hD b hb; exact ⟨by omega, by omega, .inl hb⟩
          · have := h12 b (.inr hb); exact ⟨by omega, by omega, .inr ⟨by omega, by omega⟩⟩
          · exact ⟨by omega, by omega, .inr ⟨by omega, by omega⟩⟩
end Go.Proofs.YtajmfonepnkofaaDoor
namespace Go.Proofs.YtajmfonepnkofaaDoor.Rg
open Go Go.RowKit
set_option linter.unusedVariables false
set_option linter.unusedSimpArgs false

/-- 'w2' has all blocks below K as 'w0' had them, and perhaps more. -/
structure SinceB (K : Nat) (w0 w2 : World) : Prop where
  size : w0.heap.size ≤ w2.heap.size
  block : ∀ b, b < K → w2.heap[b]? = w0.heap[b]?
section
variable {K K' : Nat} {w0 w w' : World}
theorem SinceB.refl (K : Nat) (w : World) : SinceB K w w := ⟨Nat.le_refl _, fun _ _ => rfl⟩
theorem SinceB.drew (K : Nat) (w : World) : SinceB K w w.drew := ⟨Nat.le_refl _, fun _ _ => rfl⟩
theorem SinceB.drewR (h : SinceB K w0 w) : SinceB K w0 w.drew := ⟨h.size, h.block⟩
theorem SinceB.below (h : SinceB K w0 w) (hb : Below K' w w') (hK : K ≤ K') : SinceB K w0 w' :=
  ⟨Nat.le_trans h.size hb.size, fun b hb' => (hb.block b (Nat.lt_of_lt_of_le hb' hK)).trans (h.block b hb')⟩
theorem SinceB.only {g : Option Nat} (h : SinceB K w0 w) (hb : Only K' g w w') (hK : K ≤ K') (hg : ∀ k, g = some k → K ≤ k) : SinceB K w0 w' :=
  ⟨Nat.le_trans h.size hb.size, fun b hb' => (hb.block b (Nat.lt_of_lt_of_le hb' hK) (fun e => by have := hg b e; omega)).trans (h.block b hb')⟩
theorem SinceB.alloc (h : SinceB K w0 w) (hK : K ≤ w.heap.size) (o : Obj) : SinceB K w0 (w.alloc o) := h.below ((Below.refl w.heap.size w).alloc (Nat.le_refl _) o) hK
theorem SinceB.set (h : SinceB K w0 w) {p : Addr} (hp : K ≤ p.block) (u : Value) : SinceB K w0 (w.setCell p u) := h.below ((Below.refl K w).setCell hp u) (Nat.le_refl _)
theorem SinceB.and_ {R : Prop} (h : SinceB K w0 w) (k : SinceB K w0 w → R) : SinceB K w0 w ∧ R := ⟨h, k h⟩
end
theorem gives_loadB {P : Program} {o : Oper} {a : Act} {w w0 : World} {K0 : Nat} {p : Addr} {u v : Value} {t : TypeId} {x : Operand} (ho : o.op = .load t x) (hx : a.eval x = .pointer (some p)) (hc : w.cell? p = some u) (hp : p.block < K0) (hS : SinceB K0 w0 w) (hg : Gives P o a w v) :
    ∀ w2, SinceB K0 w0 w2 → Gives P o a w2 v := by
  intro w2 h2
  obtain ⟨cs, e, fz, hh⟩ : ∃ cs e fz, w.heap[p.block]? = some (.cells cs e fz) := by
    unfold World.cell? at hc
    split at hc
    · rename_i cs e fz hh; exact ⟨cs, e, fz, hh⟩
    · cases hc
  have hh2 : w2.heap[p.block]? = some (.cells cs e fz) := (h2.block _ hp).trans ((hS.block _ hp).symm.trans hh)
  unfold Gives at *
  obtain ⟨dst, op, type, pos, after, guard⟩ := o
  simp only at ho
  subst ho
  simp only [execOp, hx, Instr.loadAt, Instr.sureAddr, Sem.run_bind, Sem.run_pure, Result.andThen_ok, loadVar] at hg ⊢
  cases hi : (isAgg t).run P w with
  | halt x w1 => rw [hi] at hg; simp at hg
  | ok b w1 =>
    obtain ⟨rfl, hi2⟩ := free_isAgg P t w w2 b w1 hi
    rw [hi] at hg
    rw [hi2]
    simp only [Result.andThen_ok] at hg ⊢
    cases b
    · simp only [Bool.false_eq_true, if_false] at hg ⊢
      cases hl : (load p).run P w1 with
      | halt x w3 => rw [hl] at hg; simp at hg
      | ok u' w3 =>
        rw [hl] at hg
        simp only [Result.andThen_ok, Result.ok.injEq, Next.value.injEq] at hg
        obtain ⟨rfl, rfl⟩ := hg
        rw [run_load_since hh hh2 rfl hl]
        rfl
    · simp only [if_true, Sem.run_bind, Sem.run_pure] at hg ⊢
      cases hs : (sizeOf t).run P w1 with
      | halt x w3 => rw [hs] at hg; simp at hg
      | ok n w3 =>
        obtain ⟨rfl, hs2⟩ := free_sizeOf P t w1 w2 n w3 hs
        rw [hs] at hg
        rw [hs2]
        simp only [Result.andThen_ok, loadCells] at hg ⊢
        cases hl : (loadCellsFrom p 0 n #[]).run P w3 with
        | halt x w4 => rw [hl] at hg; simp at hg
        | ok r w4 =>
          rw [hl] at hg
          simp only [Result.andThen_ok, Result.ok.injEq, Next.value.injEq] at hg
          obtain ⟨rfl, rfl⟩ := hg
          rw [run_loadCells_since hh hh2 n 0 #[] r hl]
          rfl
/-- A load that may come up behind an effect: its block stood when the region began. -/
theorem wpT_lB {P : Program} {ops : Array Oper} {et sl : List Tmp} {QT : Act → World → Prop} {o : Oper} {rest : List Oper} {a : Act} {w w0 : World} {K0 : Nat} {t : TypeId} (x : Operand) (p : Addr) (hg : o.guard = none) (ho : o.op = .load t x) (het : inT et o = false) (hx : a.eval x = .pointer (some p))
    (hS : SinceB K0 w0 w) (hp : p.block < K0) (hc : (w.cell? p).isSome = true)
    (h : ∀ K : Act → World → Prop, (∀ a', wpT P ops (SinceB K0 w0) et sl QT rest a' w → K a' w) → o.wp P a w K Qf) : wpT P ops (SinceB K0 w0) et sl QT (o :: rest) a w := by
  have h1 := h (fun a' w' => w' = w ∧ wpT P ops (SinceB K0 w0) et sl QT rest a' w') (fun a' h => ⟨rfl, h⟩)
  have he : isE et o = false := by simp [isE, isEop, ho, het]
  obtain ⟨u, hc⟩ := Option.isSome_iff_exists.1 hc
  unfold Oper.wp at h1
  generalize hr : (execOp a.eval o).run P w = r at h1
  cases r with
  | ok n w' =>
    obtain ⟨v, rfl⟩ := exec_value he hr
    simp only [Oper.upon] at h1
    obtain ⟨rfl, h2⟩ := h1
    exact wpT_s v he hg hr (gives_loadB ho hx hc hp hS hr) h2
  | halt y w' =>
    exfalso
    cases y <;> simp only [Oper.upon] at h1
    exact h1
theorem wpT_lwB {P : Program} {ops : Array Oper} {et sl : List Tmp} {QT : Act → World → Prop} {o : Oper} {rest : List Oper} {a : Act} {w w0 : World} {K0 : Nat} {t : TypeId} (x : Operand) (p : Addr) (hg : Region.wanted o (yielded ops a.tmps) = true) (ho : o.op = .load t x) (het : inT et o = false) (hx : a.eval x = .pointer (some p))
    (hS : SinceB K0 w0 w) (hp : p.block < K0) (hc : (w.cell? p).isSome = true)
    (h : ∀ K : Act → World → Prop, (∀ a', wpT P ops (SinceB K0 w0) et sl QT rest a' w → K a' w) → o.wp P a w K Qf) : wpT P ops (SinceB K0 w0) et sl QT (o :: rest) a w := by
  have h1 := h (fun a' w' => w' = w ∧ wpT P ops (SinceB K0 w0) et sl QT rest a' w') (fun a' h => ⟨rfl, h⟩)
  have he : isE et o = false := by simp [isE, isEop, ho, het]
  obtain ⟨u, hc⟩ := Option.isSome_iff_exists.1 hc
  unfold Oper.wp at h1
  generalize hr : (execOp a.eval o).run P w = r at h1
  cases r with
  | ok n w' =>
    obtain ⟨v, rfl⟩ := exec_value he hr
    simp only [Oper.upon] at h1
    obtain ⟨rfl, h2⟩ := h1
    exact wpT_sw v he hg hr (gives_loadB ho hx hc hp hS hr) h2
  | halt y w' =>
    exfalso
    cases y <;> simp only [Oper.upon] at h1
    exact h1

end Go.Proofs.YtajmfonepnkofaaDoor.Rg
