/-
  Words for memory, over any program: a slice value that reads as a list ('Sl'), one that the call itself made ('Own'); what appends, makes and stores do to them.
  Conditions: the sizes of what grows are bounded (2^40 elements).
-/
import Derived.WalkKit
namespace Go.Proofs.YtajmfonepnkofaaDoor
open Go Go.RowKit

theorem keepc {w w' : World} (hb : Below w.heap.size w w') {p : Addr} {v : Value} (h : w.cell? p = some v) : w'.cell? p = some v := by
  refine (hb.cell ?_).trans h
  rcases Nat.lt_or_ge p.block w.heap.size with h1 | h1
  · exact h1
  · simp [World.cell?, Array.getElem?_eq_none h1] at h

/-- A slice with address 'A' reads as 'xs' (an element: 'sz' cells, 'enc' gives them); its cells lie in one block from lo on, below hi. -/
def Sl {α : Type} (enc : α → List Value) (sz : Nat) (w : World) (lo hi : Nat) (A : Option Addr) (xs : List α) : Prop :=
  xs ≠ [] → ∃ b off, A = some ⟨b, off, none⟩ ∧ lo ≤ b ∧ b < hi ∧ ∀ (i : Nat) (x : α), xs[i]? = some x → ∀ (j : Nat) (u : Value), (enc x)[j]? = some u → w.cell? ⟨b, off + i * sz + j, none⟩ = some u

section
variable {α : Type} {enc : α → List Value} {sz : Nat} {w w' : World} {lo hi : Nat} {A : Option Addr} {xs ys : List α}

theorem Sl.nil_ : Sl enc sz w lo hi A [] := fun h => absurd rfl h
theorem Sl.keep (h : Sl enc sz w lo hi A xs) (hk : ∀ b, lo ≤ b → b < hi → w'.heap[b]? = w.heap[b]?) : Sl enc sz w' lo hi A xs := fun hne => by
  obtain ⟨b, off, rfl, h1, h2, h3⟩ := h hne
  exact ⟨b, off, rfl, h1, h2, fun i x hx j u hu => (World.cell?_of_block (hk b h1 h2)).trans (h3 i x hx j u hu)⟩
theorem Sl.below {B : Nat} (h : Sl enc sz w lo hi A xs) (hb : Below B w w') (hB : hi ≤ B) : Sl enc sz w' lo hi A xs :=
  h.keep fun b _ h2 => hb.block b (by omega)
theorem Sl.mono {lo' hi' : Nat} (h : Sl enc sz w lo hi A xs) (hl : lo' ≤ lo) (hh : hi ≤ hi') : Sl enc sz w lo' hi' A xs := fun hne => by
  obtain ⟨b, off, rfl, h1, h2, h3⟩ := h hne
  exact ⟨b, off, rfl, by omega, by omega, h3⟩
theorem Sl.addr (h : Sl enc sz w lo hi A xs) {k : Nat} (hk : k < xs.length) : ∃ b off, A = some ⟨b, off, none⟩ ∧ lo ≤ b ∧ b < hi := by
  obtain ⟨b, off, rfl, h1, h2, _⟩ := h (by rintro rfl; simp at hk)
  exact ⟨b, off, rfl, h1, h2⟩
theorem Sl.at_ {b off : Nat} (h : Sl enc sz w lo hi (some ⟨b, off, none⟩) xs) {k : Nat} (hk : k < xs.length) : ∀ (j : Nat) (u : Value), (enc xs[k])[j]? = some u → w.cell? ⟨b, off + k * sz + j, none⟩ = some u := by
  obtain ⟨b', off', he, _, _, h3⟩ := h (by rintro rfl; simp at hk)
  injection he with he
  injection he with e1 e2
  subst e1; subst e2
  exact h3 k xs[k] (List.getElem?_eq_getElem hk)
/-- A part of it: 's[i:j]'. -/
theorem Sl.part {b off : Nat} (h : Sl enc sz w lo hi (some ⟨b, off, none⟩) xs) (i n : Nat) : Sl enc sz w lo hi (some ⟨b, off + i * sz, none⟩) ((xs.drop i).take n) := fun hne => by
  have hx : xs ≠ [] := by rintro rfl; simp at hne
  obtain ⟨b', off', he, h1, h2, h3⟩ := h hx
  injection he with he
  injection he with e1 e2
  subst e1; subst e2
  refine ⟨b, _, rfl, h1, h2, fun k x hk j u hu => ?_⟩
  have hk' : xs[i + k]? = some x := by
    rw [List.getElem?_take] at hk
    split at hk
    · rw [List.getElem?_drop] at hk; exact hk
    · cases hk
  have := h3 (i + k) x hk' j u hu
  rw [Nat.add_mul, ← Nat.add_assoc] at this
  exact this
theorem Sl.take_ (h : Sl enc sz w lo hi A xs) (n : Nat) : Sl enc sz w lo hi A (xs.take n) := fun hne => by
  obtain ⟨b, off, rfl, h1, h2, h3⟩ := h (by rintro rfl; simp at hne)
  refine ⟨b, off, rfl, h1, h2, fun k x hk j u hu => h3 k x ?_ j u hu⟩
  rw [List.getElem?_take] at hk
  split at hk
  · exact hk
  · cases hk
end

/-- A slice value whose row the call itself made (a block from lo on): it owns the elements 'xs'. (Its capacity may be less than its block holds.) -/
def Own {α : Type} (enc : α → List Value) (sz : Nat) (e : TypeId) (w : World) (lo : Nat) (v : Value) (xs : List α) : Prop :=
  (v = .slice none 0 0 ∧ xs.length = 0) ∨
  ∃ g cap cur, v = .slice (some ⟨g, 0, none⟩) xs.length cap ∧ lo ≤ g ∧ w.heap[g]? = some (.cells cur e (0, 0)) ∧ xs.length ≤ cap ∧ cap ≤ maxLen ∧ cap * sz ≤ cur.size ∧ cur.toList.take (xs.length * sz) = xs.flatMap enc

theorem flatMap_len {α : Type} {enc : α → List Value} {sz : Nat} (hl : ∀ x, (enc x).length = sz) (xs : List α) : (xs.flatMap enc).length = xs.length * sz := by
  induction xs with
  | nil => simp
  | cons x xs ih => simp [List.flatMap_cons, ih, hl, Nat.add_mul, Nat.add_comm]
theorem flatMap_get {α : Type} {enc : α → List Value} {sz : Nat} (hl : ∀ x, (enc x).length = sz) : ∀ (xs : List α) (i : Nat) (x : α), xs[i]? = some x → ∀ j u, (enc x)[j]? = some u → (xs.flatMap enc)[i * sz + j]? = some u
  | [], i, x, h, j, u, hu => by simp at h
  | y :: xs, 0, x, h, j, u, hu => by
    simp at h; subst h
    have hj : j < (enc y).length := (List.getElem?_eq_some_iff.1 hu).1
    rw [List.flatMap_cons, Nat.zero_mul, Nat.zero_add, List.getElem?_append_left hj]
    exact hu
  | y :: xs, i + 1, x, h, j, u, hu => by
    rw [List.flatMap_cons, List.getElem?_append_right (by rw [hl, Nat.add_mul]; omega), hl, Nat.add_mul, show i * sz + 1 * sz + j - sz = i * sz + j by omega]
    exact flatMap_get hl xs i x (by simpa using h) j u hu
theorem flatMap_set {α : Type} {enc : α → List Value} {sz : Nat} (hl : ∀ x, (enc x).length = sz) : ∀ (xs : List α) (i : Nat) (x : α), i < xs.length →
    (xs.set i x).flatMap enc = (xs.flatMap enc).take (i * sz) ++ enc x ++ (xs.flatMap enc).drop (i * sz + sz)
  | [], i, x, h => by simp at h
  | y :: xs, 0, x, h => by
    have h1 : (enc y ++ xs.flatMap enc).drop (0 * sz + sz) = xs.flatMap enc := List.drop_left' (by rw [hl]; omega)
    simp only [List.set_cons_zero, List.flatMap_cons, h1]
    simp
  | y :: xs, i + 1, x, h => by
    simp only [List.set_cons_succ, List.flatMap_cons, flatMap_set hl xs i x (by simpa using h)]
    have e1 : (i + 1) * sz = sz + i * sz := by rw [Nat.add_mul]; omega
    have t1 : (enc y ++ xs.flatMap enc).take (sz + i * sz) = enc y ++ (xs.flatMap enc).take (i * sz) := by
      rw [List.take_append, hl, show sz + i * sz - sz = i * sz by omega, List.take_of_length_le (l := enc y) (by rw [hl]; omega)]
    have t2 : (enc y ++ xs.flatMap enc).drop (sz + i * sz + sz) = (xs.flatMap enc).drop (i * sz + sz) := by
      rw [List.drop_append, hl, show sz + i * sz + sz - sz = i * sz + sz by omega, List.drop_of_length_le (l := enc y) (by rw [hl]; omega), List.nil_append]
    rw [e1, t1, t2]
    simp only [List.append_assoc]
theorem splice_take {β : Type} (L s : List β) (p k n : Nat) (hp : p + k ≤ n) (hs : s.length = k) (hn : n ≤ L.length) :
    (L.take p ++ s ++ L.drop (p + k)).take n = (L.take n).take p ++ s ++ (L.take n).drop (p + k) := by
  have l1 : (L.take p ++ s).length = p + k := by rw [List.length_append, List.length_take, hs]; omega
  rw [List.take_append, l1, List.take_of_length_le (by rw [l1]; omega), List.take_take, Nat.min_eq_left (by omega), List.drop_take]

section
variable {α : Type} {enc : α → List Value} {sz : Nat} {e : TypeId} {w w' : World} {lo : Nat} {v : Value} {xs ys : List α}

theorem lt_of_heap {w : World} {g : Nat} {o : Obj} (h : w.heap[g]? = some o) : g < w.heap.size := (Array.getElem?_eq_some_iff.1 h).1
theorem Own.nil_ (enc : α → List Value) (sz : Nat) (e : TypeId) (w : World) (lo : Nat) : Own enc sz e w lo (.slice none 0 0) [] := .inl ⟨rfl, rfl⟩
theorem Own.lt (h : Own enc sz e w lo v xs) : ∀ k, v.ownBlock = some k → lo ≤ k ∧ k < w.heap.size := by
  intro k hk
  rcases h with ⟨rfl, _⟩ | ⟨g, cap, cur, rfl, hg, hh, _⟩
  · simp [Value.ownBlock] at hk
  · simp [Value.ownBlock] at hk
    subst hk
    exact ⟨hg, lt_of_heap hh⟩
theorem Own.keep (h : Own enc sz e w lo v xs) (hk : ∀ b, v.ownBlock = some b → w'.heap[b]? = w.heap[b]?) : Own enc sz e w' lo v xs := by
  rcases h with h | ⟨g, cap, cur, rfl, hg, hh, r⟩
  · exact .inl h
  · exact .inr ⟨g, cap, cur, rfl, hg, (hk g rfl).trans hh, r⟩
theorem Own.below {B : Nat} (h : Own enc sz e w lo v xs) (hb : Below B w w') (hB : w.heap.size ≤ B) : Own enc sz e w' lo v xs :=
  h.keep fun b hb' => hb.block b (by have := (h.lt b hb').2; omega)
theorem Own.alloc (h : Own enc sz e w lo v xs) (o : Obj) : Own enc sz e (w.alloc o) lo v xs :=
  h.below ((Below.refl w.heap.size w).alloc (Nat.le_refl _) o) (Nat.le_refl _)
theorem Own.drew (h : Own enc sz e w lo v xs) : Own enc sz e w.drew lo v xs := h
theorem Own.mono {lo' : Nat} (h : Own enc sz e w lo v xs) (hl : lo' ≤ lo) : Own enc sz e w lo' v xs := by
  rcases h with h | ⟨g, cap, cur, rfl, hg, r⟩
  · exact .inl h
  · exact .inr ⟨g, cap, cur, rfl, by omega, r⟩
/-- Its form. -/
theorem Own.form (h : Own enc sz e w lo v xs) : ∃ A c, v = .slice A xs.length c ∧ xs.length ≤ c ∧ c ≤ maxLen ∧ (A = none ∨ ∃ g, A = some ⟨g, 0, none⟩ ∧ lo ≤ g ∧ g < w.heap.size) := by
  rcases h with ⟨h2, h3⟩ | ⟨g, cap, cur, rfl, hg, hh, r⟩
  · exact ⟨none, 0, by rw [h2, h3], by omega, by simp [maxLen], .inl rfl⟩
  · exact ⟨_, cap, rfl, r.1, r.2.1, .inr ⟨g, rfl, hg, lt_of_heap hh⟩⟩
theorem Own.sl (hl : ∀ x, (enc x).length = sz) (h : Own enc sz e w lo v xs) : ∃ A c, v = .slice A xs.length c ∧ xs.length ≤ c ∧ c ≤ maxLen ∧ Sl enc sz w lo w.heap.size A xs := by
  rcases h with ⟨h2, h3⟩ | ⟨g, cap, cur, rfl, hg, hh, r1, r2, r3, r4⟩
  · have : xs = [] := List.eq_nil_of_length_eq_zero h3
    subst this
    exact ⟨none, 0, h2, by simp, by simp [maxLen], Sl.nil_⟩
  · refine ⟨_, cap, rfl, r1, r2, fun _ => ⟨g, 0, rfl, hg, lt_of_heap hh, fun i x hx j u hu => ?_⟩⟩
    have h5 := flatMap_get hl xs i x hx j u hu
    rw [← r4, List.getElem?_take] at h5
    split at h5
    · simp only [World.cell?, hh, Nat.zero_add]
      simpa using h5
    · cases h5
theorem Own.addrAt {A : Option Addr} {n c k : Nat} (h : Own enc sz e w lo (.slice A n c) xs) (hk : k < n) : ∃ g, A = some ⟨g, 0, none⟩ ∧ lo ≤ g ∧ g < w.heap.size := by
  rcases h with ⟨h2, h3⟩ | ⟨g, cap, cur, he, hg, hh, r⟩
  · injection h2 with e1 e2 e3
    omega
  · injection he with e1 e2 e3
    exact ⟨g, e1, hg, lt_of_heap hh⟩
theorem Own.lenEq {A : Option Addr} {n c : Nat} (h : Own enc sz e w lo (.slice A n c) xs) : n = xs.length := by
  rcases h with ⟨h2, h3⟩ | ⟨g, cap, cur, he, hg, hh, r⟩
  · injection h2 with e1 e2 e3
    omega
  · injection he with e1 e2 e3
/-- With an address in hand. -/
theorem Own.slAt (hl : ∀ x, (enc x).length = sz) {A : Option Addr} {n c : Nat} (h : Own enc sz e w lo (.slice A n c) xs) : n = xs.length ∧ n ≤ c ∧ Sl enc sz w lo w.heap.size A xs := by
  obtain ⟨A', c', he, h1, _, h2⟩ := h.sl hl
  injection he with e1 e2 e3
  subst e1; subst e2; subst e3
  exact ⟨rfl, h1, h2⟩
theorem Own.frozen {g n c : Nat} (h : Own enc sz e w lo (.slice (some ⟨g, 0, none⟩) n c) xs) (j : Nat) : w.frozen? ⟨g, j, none⟩ = false := by
  rcases h with ⟨h2, _⟩ | ⟨g', cap, cur, he, hg, hh, r⟩
  · cases h2
  · injection he with he
    injection he with he
    injection he with he
    subst he
    simp [World.frozen?, hh]
/-- The row itself. -/
theorem Own.row {g n c : Nat} (h : Own enc sz e w lo (.slice (some ⟨g, 0, none⟩) n c) xs) : n = xs.length ∧ lo ≤ g ∧ ∃ cur, w.heap[g]? = some (.cells cur e (0, 0)) ∧ n ≤ c ∧ c ≤ maxLen ∧ c * sz ≤ cur.size ∧ cur.toList.take (n * sz) = xs.flatMap enc := by
  rcases h with ⟨h2, _⟩ | ⟨g', cap, cur, he, hg, hh, r⟩
  · cases h2
  · injection he with e1 e2 e3
    injection e1 with e1
    injection e1 with e1
    subst e1; subst e2; subst e3
    exact ⟨rfl, hg, cur, hh, r⟩
theorem Own.of_row {g c : Nat} {cur : Array Value} (hlo : lo ≤ g) (hh : w.heap[g]? = some (.cells cur e (0, 0))) (hc : xs.length ≤ c) (hm : c ≤ maxLen) (hs : c * sz ≤ cur.size)
    (ht : cur.toList.take (xs.length * sz) = xs.flatMap enc) : Own enc sz e w lo (.slice (some ⟨g, 0, none⟩) xs.length c) xs :=
  .inr ⟨g, c, cur, rfl, hlo, hh, hc, hm, hs, ht⟩
/-- Shorter: 's[:k]'. -/
theorem Own.cutTo (hl : ∀ x, (enc x).length = sz) {g n c : Nat} (h : Own enc sz e w lo (.slice (some ⟨g, 0, none⟩) n c) xs) {k : Nat} (hk : k ≤ n) : Own enc sz e w lo (.slice (some ⟨g, 0, none⟩) k c) (xs.take k) := by
  obtain ⟨rfl, hg, cur, hh, h1, h2, h3, h4⟩ := h.row
  have hz : (xs.take k).length = k := by simp; omega
  have := Own.of_row (enc := enc) (sz := sz) (xs := xs.take k) hg hh (by omega) h2 h3 (by
    rw [hz]
    have e1 : cur.toList.take (k * sz) = (cur.toList.take (xs.length * sz)).take (k * sz) := by
      rw [List.take_take, Nat.min_eq_left (Nat.mul_le_mul_right _ hk)]
    rw [e1, h4]
    have : xs.flatMap enc = (xs.take k).flatMap enc ++ (xs.drop k).flatMap enc := by rw [← List.flatMap_append, List.take_append_drop]
    rw [this, List.take_append, flatMap_len hl, hz, Nat.sub_self, List.take_zero, List.append_nil, List.take_of_length_le (by rw [flatMap_len hl, hz]; omega)])
  rwa [hz] at this
end

section
variable {α : Type} {enc : α → List Value} {sz : Nat} {e : TypeId} {w : World} {lo : Nat} {xs : List α}
/-- 's[:len(s):len(s)]' -/
theorem Own.clip {A : Option Addr} {n c : Nat} (h : Own enc sz e w lo (.slice A n c) xs) : Own enc sz e w lo (.slice A n n) xs := by
  rcases h with ⟨h2, h3⟩ | ⟨g, cap, cur, he, hg, hh, r1, r2, r3, r4⟩
  · injection h2 with e1 e2 e3
    subst e1; subst e2
    exact .inl ⟨rfl, h3⟩
  · injection he with e1 e2 e3
    subst e1; subst e2
    exact .inr ⟨g, xs.length, cur, rfl, hg, hh, Nat.le_refl _, by omega, Nat.le_trans (Nat.mul_le_mul_right _ r1) r3, r4⟩
theorem Own.cap {A : Option Addr} {n c : Nat} (h : Own enc sz e w lo (.slice A n c) xs) : n ≤ c ∧ c ≤ maxLen := by
  rcases h with ⟨h2, h3⟩ | ⟨g, cap, cur, he, hg, hh, r1, r2, r3, r4⟩
  · injection h2 with e1 e2 e3
    subst e2; subst e3
    simp [maxLen]
  · injection he with e1 e2 e3
    subst e2; subst e3
    exact ⟨r1, r2⟩
end

/-- Cells j, j+1, .. of block g, written one after another. -/
def putCells (w : World) (g j : Nat) : List Value → World
  | [] => w
  | u :: us => putCells (w.setCell ⟨g, j, none⟩ u) g (j + 1) us

theorem heap_putCells (us : List Value) : ∀ (w : World) (g j : Nat) (cur : Array Value) (e : TypeId), w.heap[g]? = some (.cells cur e (0, 0)) → j + us.length ≤ cur.size →
    ∃ cur', (putCells w g j us).heap[g]? = some (.cells cur' e (0, 0)) ∧ cur'.size = cur.size ∧ cur'.toList = cur.toList.take j ++ us ++ cur.toList.drop (j + us.length) := by
  induction us with
  | nil => intro w g j cur e h hj; exact ⟨cur, h, rfl, by simp⟩
  | cons u us ih =>
    intro w g j cur e h hj
    simp only [List.length_cons] at hj
    have h1 : (w.setCell ⟨g, j, none⟩ u).heap[g]? = some (.cells (cur.setIfInBounds j u) e (0, 0)) := by
      simp [World.setCell, Array.getElem?_modify, h]
    obtain ⟨cur', h2, h3, h4⟩ := ih _ g (j + 1) _ e h1 (by simp; omega)
    refine ⟨cur', h2, by simpa using h3, ?_⟩
    rw [h4]
    have hlen : j < cur.toList.length := by simp; omega
    simp only [Array.toList_setIfInBounds, List.length_cons]
    rw [List.take_set, List.drop_set_of_lt (by omega)]
    have : (cur.toList.take (j + 1)).set j u = cur.toList.take j ++ [u] := by
      have hm : min j cur.size = j := by simp at hlen; omega
      rw [List.take_succ_eq_append_getElem hlen, List.set_append_right _ _ (by simp; omega)]
      simp [hm]
    rw [this, show j + 1 + us.length = j + (us.length + 1) by omega]
    simp

section
variable {α : Type} {enc : α → List Value} {sz : Nat} {e : TypeId} {w : World} {lo : Nat} {xs : List α}
theorem Own.put_ (hl : ∀ x, (enc x).length = sz) {g n c : Nat} (h : Own enc sz e w lo (.slice (some ⟨g, 0, none⟩) n c) xs) {i : Nat} (hi : i < n) (x : α) :
    Own enc sz e (putCells w g (i * sz) (enc x)) lo (.slice (some ⟨g, 0, none⟩) n c) (xs.set i x) := by
  obtain ⟨rfl, hg, cur, hh, h1, h2, h3, h4⟩ := h.row
  have hb : i * sz + sz ≤ xs.length * sz := by
    have := Nat.mul_le_mul_right sz (show i + 1 ≤ xs.length by omega)
    rw [Nat.add_mul] at this; omega
  have hb2 : xs.length * sz ≤ c * sz := Nat.mul_le_mul_right sz h1
  obtain ⟨cur', h5, h6, h7⟩ := heap_putCells (enc x) w g (i * sz) cur e hh (by rw [hl]; omega)
  have hz : (xs.set i x).length = xs.length := by simp
  have := Own.of_row (enc := enc) (sz := sz) (xs := xs.set i x) (c := c) hg h5 (by omega) h2 (by omega) (by
    rw [hz, h7, flatMap_set hl xs i x hi, hl, ← h4]
    exact splice_take _ _ _ _ _ hb (hl x) (by have := hb2; simp only [Array.length_toList]; omega))
  rwa [hz] at this
end

theorem below_putCells (us : List Value) : ∀ {B : Nat} {a w : World} {g j : Nat}, Below B a w → B ≤ g → Below B a (putCells w g j us) := by
  induction us with
  | nil => intro B a w g j h _; exact h
  | cons u us ih => intro B a w g j h hg; exact ih (h.setCell (p := ⟨g, j, none⟩) hg u) hg
theorem heap_putCells_other (us : List Value) : ∀ (w : World) (g j k : Nat), k ≠ g → (putCells w g j us).heap[k]? = w.heap[k]? := by
  induction us with
  | nil => intro w g j k _; rfl
  | cons u us ih => intro w g j k hk; exact (ih _ g (j + 1) k hk).trans (Below.heap_setCell w ⟨g, j, none⟩ u k hk)
theorem size_putCells (us : List Value) : ∀ (w : World) (g j : Nat), (putCells w g j us).heap.size = w.heap.size := by
  induction us with
  | nil => intro w g j; rfl
  | cons u us ih => intro w g j; exact (ih _ g (j + 1)).trans (by simp [World.setCell])

theorem grown_of_below {B : Nat} {a w w' : World} {row : Option Nat} (h : Below B a w) (hg : w.grownBy w' row) (hB : B ≤ w.heap.size) (hr : ∀ k, row = some k → B ≤ k) : Below B a w' := h.grown hg hB hr

section
variable {P : Program}
theorem run_app {α : Type} {enc : α → List Value} {sz0 : Nat} (hl : ∀ x, (enc x).length = sz0) (hsz : 0 < sz0) (h1c : ∀ x, ∀ u ∈ enc x, u.oneCell' = true) (t ty e : TypeId) (i : TypeInfo) (z : Value) (bytes : Nat) (ht : P.underlying t = some (.slice e)) (hi : P.info? e = some i) (hz : i.zero = some z)
    (hsize : i.size = sz0) (hby : i.bytes = bytes) (hzs : z.cells.size = sz0) {w : World} {lo : Nat} {v : Value} {xs : List α} (hown : Own enc sz0 e w lo v xs)
    (a : Addr) (ys : List α) (c : Nat) (hnews : ∀ j u, (ys.flatMap enc)[j]? = some u → w.cell? (a.add j) = some u)
    (h63 : xs.length + ys.length ≤ maxLen) (hbytes : (xs.length + ys.length) * bytes ≤ 140737488355328) (hbase : lo ≤ w.heap.size) :
    ∃ v' w', (Builtin.append_ #[t, t] ty #[v, .slice (some a) ys.length c]).run P w = .ok v' w' ∧ Own enc sz0 e w' lo v' (xs ++ ys) ∧ w.grownBy w' v.ownBlock := by
  subst hsize
  subst hby
  have hsmall : xs.length + ys.length ≤ 9223372036854775807 := by simp only [maxLen] at h63; omega
  have hxl := flatMap_len hl xs
  have hyl := flatMap_len hl ys
  have h1 : ∀ u ∈ ys.flatMap enc, u.oneCell' = true := fun u hu => by
    obtain ⟨x, _, hx⟩ := List.mem_flatMap.1 hu
    exact h1c x u hx
  have hlen : (xs.flatMap enc ++ ys.flatMap enc).length = (xs.length + ys.length) * i.size := by rw [List.length_append, hxl, hyl, Nat.add_mul]
  have grown : ∀ (old : Nat), old < xs.length + ys.length → ∀ (row : Option Nat),
      Own enc i.size e (w.drew.alloc (.cells ((xs.flatMap enc).toArray ++ (ys.flatMap enc).toArray ++ Builtin.zeroCells z.cells (grownCap w (xs.length + ys.length) old e - (xs.length + ys.length))) e)) lo
        (.slice (some ⟨w.heap.size, 0, none⟩) (xs.length + ys.length) (grownCap w (xs.length + ys.length) old e)) (xs ++ ys) ∧
      w.grownBy (w.drew.alloc (.cells ((xs.flatMap enc).toArray ++ (ys.flatMap enc).toArray ++ Builtin.zeroCells z.cells (grownCap w (xs.length + ys.length) old e - (xs.length + ys.length))) e)) row := by
    intro old ho row
    have hge := grownCap_ge w (xs.length + ys.length) old e
    have hcm : grownCap w (xs.length + ys.length) old e ≤ maxLen := grownCap_le_maxLen w (xs.length + ys.length) old e h63
    refine ⟨.inr ⟨w.heap.size, grownCap w (xs.length + ys.length) old e, _, by rw [List.length_append], hbase, heap_alloc_new w.drew _, by rw [List.length_append]; exact hge, hcm, ?_, ?_⟩, ⟨rfl, rfl, rfl, by simp, fun k hk _ => Below.heap_alloc w.drew _ k hk⟩⟩
    · apply Nat.le_of_eq
      simp only [Array.size_append, List.size_toArray, size_zeroCells, hzs, hxl, hyl, ← Nat.add_mul]
      congr 1
      omega
    · rw [List.length_append, List.flatMap_append]
      simp only [Array.toList_append, List.append_assoc]
      rw [← List.append_assoc, ← hlen]
      exact List.take_left
  rcases hown with ⟨rfl, h0⟩ | ⟨g, cap, cur, rfl, hbg, hg, hnc, hcm, hcs, htake⟩
  · have hx : xs = [] := List.eq_nil_of_length_eq_zero h0
    subst hx
    by_cases hm : ys.length = 0
    · have hn : ys = [] := List.eq_nil_of_length_eq_zero hm
      subst hn
      refine ⟨.slice none 0 0, w, ?_, by simpa using Own.nil_ enc i.size e w lo, ⟨rfl, rfl, rfl, Nat.le_refl _, fun _ _ _ => rfl⟩⟩
      simp [Builtin.append_, run_underlying ht, sizeOf, typeInfo, hi, Builtin.lenOf, Builtin.firstCells, loadCells, loadCellsFrom]
    · have hr := run_append_nil (P := P) w t ty e i z ht hi hz a ys.length c (ys.flatMap enc) hyl hnews (by omega) (by simp at hsmall; omega) (by have hb := hbytes; simp only [List.length_nil, Nat.zero_add] at hb; omega)
      have hgr := grown 0 (by simp; omega) (Value.ownBlock (.slice none 0 0))
      simp only [List.length_nil, Nat.zero_add, List.nil_append, List.flatMap_nil, Array.empty_append] at hgr ⊢
      exact ⟨_, _, hr, hgr.1, hgr.2⟩
  · by_cases hroom : xs.length + ys.length ≤ cap
    · have hfit : xs.length * i.size + (ys.flatMap enc).length ≤ cur.size := by
        have := Nat.mul_le_mul_right i.size hroom
        rw [hyl, ← Nat.add_mul]; omega
      have hr := run_append_room (P := P) w t ty e i ht hi g xs.length cap cur hg a ys.length c (ys.flatMap enc) hyl hnews h1 hroom hfit
      refine ⟨_, _, hr, .inr ⟨g, cap, _, by rw [List.length_append], hbg, setRow_heap w g cur _ e _ hg, by rw [List.length_append]; exact hroom, hcm, ?_, ?_⟩, ⟨rfl, rfl, rfl, by simp, fun k _ hk => setRow_other w g k _ (fun e => hk (by simp [Value.ownBlock, e]))⟩⟩
      · simp only [List.size_toArray, List.length_append, List.length_take, List.length_drop, Array.length_toList]
        omega
      · rw [List.length_append, List.flatMap_append, htake, ← hlen]
        exact List.take_left
    · have holds : ∀ j u, (xs.flatMap enc)[j]? = some u → w.cell? ((⟨g, 0, none⟩ : Addr).add j) = some u := by
        intro j u hu
        have h5 := hu
        rw [← htake, List.getElem?_take] at h5
        split at h5
        · have e2 : ((⟨g, 0, none⟩ : Addr).add j) = ⟨g, j, none⟩ := by
            unfold Addr.add
            split
            · rename_i h0; rw [h0]
            · simp
          rw [e2]
          simp only [World.cell?, hg]
          simpa using h5
        · cases h5
      have hr := run_append_grow (P := P) w t ty e i z ht hi hz ⟨g, 0, none⟩ xs.length cap (xs.flatMap enc) hxl holds a ys.length c (ys.flatMap enc) hyl hnews (by omega) (by omega) (growslice_fits (by omega) hbytes)
      have hgr := grown cap (by omega) (Value.ownBlock (.slice (some ⟨g, 0, none⟩) xs.length cap))
      exact ⟨_, _, hr, hgr.1, hgr.2⟩

/-- 'append(s, x...)' onto a row of the call's own. -/
theorem wp_app {α : Type} {enc : α → List Value} {sz : Nat} (hl : ∀ x, (enc x).length = sz) (hsz : 0 < sz) (h1c : ∀ x, ∀ u ∈ enc x, u.oneCell' = true)
    {o : Oper} {a : Act} {w : World} {K : Act → World → Prop} {Q : Exit → Act → World → Prop} (s x : Operand) (t : TypeId)
    (ho : o.op = .call { callee := .builtin .append, args := #[s, x], argTypes := #[t, t] })
    (e : TypeId) (z : Value) (bytes : Nat) (ht : P.underlying t = some (.slice e)) (hi : (P.info? e).map (fun i => (i.zero, i.size, i.bytes)) = some (some z, sz, bytes)) (hzs : z.cells.size = sz)
    (lo : Nat) (v : Value) (xs : List α) (hs : a.eval s = v) (hown : Own enc sz e w lo v xs)
    (lo' hi' : Nat) (A : Option Addr) (ys : List α) (m c : Nat) (hx : a.eval x = .slice A m c) (hm : m = ys.length) (hsl : Sl enc sz w lo' hi' A ys)
    (hbound : (xs.length + ys.length) * bytes ≤ 140737488355328 ∧ xs.length + ys.length ≤ maxLen) (hlo : lo ≤ w.heap.size)
    (h : ∀ v' w', Own enc sz e w' lo v' (xs ++ ys) → w.grownBy w' v.ownBlock → Below lo w w' → K (a.put o.dst v') w') : o.wp P a w K Q := by
  subst hm
  obtain ⟨i, hi, hz, hsize, hby⟩ := info_parts hi
  have hB : ∀ {w'}, w.grownBy w' v.ownBlock → Below lo w w' := fun hg => (Below.refl lo w).grown hg hlo fun k hk => (hown.lt k hk).1
  by_cases hy : ys = []
  · subst hy
    have hrun : (Builtin.append_ #[t, t] o.type #[v, .slice A 0 c]).run P w = .ok v w := by
      rcases hown with ⟨rfl, h3⟩ | ⟨g, cap, cur, rfl, _, hh, hnc, _⟩
      · cases A <;> simp [Builtin.append_, run_underlying ht, sizeOf, typeInfo, hi, Builtin.lenOf, Builtin.firstCells, loadCells, loadCellsFrom]
      · cases A <;> simp [Builtin.append_, run_underlying ht, sizeOf, typeInfo, hi, Builtin.lenOf, Builtin.firstCells, loadCells, loadCellsFrom, hnc, storeCells]
    unfold Oper.wp execOp
    simp only [ho, resolve, invoke, builtin, Sem.run_bind, Sem.run_pure, Result.andThen_ok, List.map_toArray, List.map_cons, List.map_nil, hs, hx, List.length_nil, hrun]
    exact h v w (by simpa using hown) (World.grownBy.refl w _) (Below.refl _ _)
  · obtain ⟨b, off, rfl, _, _, hc⟩ := hsl hy
    have hnews : ∀ j u, (ys.flatMap enc)[j]? = some u → w.cell? ((⟨b, off, none⟩ : Addr).add j) = some u := by
      intro j u hu
      have hj : j < ys.length * sz := by rw [← flatMap_len hl ys]; exact (List.getElem?_eq_some_iff.1 hu).1
      have hk : j / sz < ys.length := Nat.div_lt_of_lt_mul (by rw [Nat.mul_comm]; exact hj)
      have hr : j % sz < sz := Nat.mod_lt _ hsz
      have hdm : j / sz * sz + j % sz = j := by rw [Nat.mul_comm]; exact Nat.div_add_mod j sz
      have hu' : (enc ys[j / sz])[j % sz]? = some ((enc ys[j / sz])[j % sz]'(by rw [hl]; exact hr)) := List.getElem?_eq_getElem _
      have h5 := flatMap_get hl ys (j / sz) ys[j / sz] (List.getElem?_eq_getElem hk) (j % sz) _ hu'
      rw [hdm, hu] at h5
      injection h5 with h5
      have h6 := hc (j / sz) ys[j / sz] (List.getElem?_eq_getElem hk) (j % sz) _ hu'
      rw [Nat.add_assoc, hdm, ← h5] at h6
      simpa [Addr.add] using (by by_cases hj0 : j = 0 <;> simp [hj0] at h6 ⊢ <;> exact h6)
    obtain ⟨v', w', hrun, h2, hg⟩ := run_app hl hsz h1c t o.type e i z bytes ht hi hz hsize hby hzs hown ⟨b, off, none⟩ ys c hnews hbound.2 hbound.1 hlo
    unfold Oper.wp execOp
    simp only [ho, resolve, invoke, builtin, Sem.run_bind, Sem.run_pure, Result.andThen_ok, List.map_toArray, List.map_cons, List.map_nil, hs, hx, hrun]
    exact h v' w' h2 hg (hB hg)

theorem wpList_app {α : Type} {enc : α → List Value} {sz : Nat} (hl : ∀ x, (enc x).length = sz) (hsz : 0 < sz) (h1c : ∀ x, ∀ u ∈ enc x, u.oneCell' = true)
    {ops : Array Oper} {rest : List Oper} {o : Oper} {a : Act} {w : World} {Q : Exit → Act → World → Prop} (hgd : o.guard = none) (s x : Operand) (t : TypeId)
    (ho : o.op = .call { callee := .builtin .append, args := #[s, x], argTypes := #[t, t] })
    (e : TypeId) (z : Value) (bytes : Nat) (ht : P.underlying t = some (.slice e)) (hi : (P.info? e).map (fun i => (i.zero, i.size, i.bytes)) = some (some z, sz, bytes)) (hzs : z.cells.size = sz)
    (lo : Nat) (v : Value) (xs : List α) (hs : a.eval s = v) (hown : Own enc sz e w lo v xs)
    (lo' hi' : Nat) (A : Option Addr) (ys : List α) (m c : Nat) (hx : a.eval x = .slice A m c) (hm : m = ys.length) (hsl : Sl enc sz w lo' hi' A ys)
    (hbound : (xs.length + ys.length) * bytes ≤ 140737488355328 ∧ xs.length + ys.length ≤ maxLen) (hlo : lo ≤ w.heap.size)
    (h : ∀ v' w', Own enc sz e w' lo v' (xs ++ ys) → w.grownBy w' v.ownBlock → Below lo w w' → wpList P ops Q rest (a.put o.dst v') w') : wpList P ops Q (o :: rest) a w :=
  wpList_plain hgd fun _ hK => wp_app hl hsz h1c s x t ho e z bytes ht hi hzs lo v xs hs hown lo' hi' A ys m c hx hm hsl hbound hlo fun v' w' h2 h3 h4 => hK _ _ (h v' w' h2 h3 h4)

/-- 'make([]T, n)' -/
theorem run_make_n (t e : TypeId) (i : TypeInfo) (z : Value) (ht : P.underlying t = some (.slice e)) (hi : P.info? e = some i) (hz : i.zero = some z)
    (kl kc : IntKind) (n : Nat) (hbytes : i.bytes * n ≤ 281474976710656) (h63 : n ≤ 9223372036854775807) (w : World) :
    (Instr.makeSlice t (.int kl (n : Int)) (.int kc (n : Int))).run P w = .ok (.slice (some ⟨w.heap.size, 0, none⟩) n n) (w.alloc (.cells (madeCells z.cells (n * i.size)) e)) := by
  have hb : (i.bytes : Int) * (n : Int) ≤ 281474976710656 := by
    have h : ((i.bytes * n : Nat) : Int) ≤ 281474976710656 := by omega
    rwa [Int.natCast_mul] at h
  have hr := run_make (P := P) w t e i z ht hi hz kl kc n n (by omega) (by omega) hb (by omega)
  simp only [Int.toNat_natCast] at hr
  exact hr
end

theorem madeCells_toList (z : Array Value) (hz : 0 < z.size) : ∀ n, (madeCells z (n * z.size)).toList = (List.replicate n z.toList).flatten
  | 0 => by simp [madeCells]
  | n + 1 => by
    have ih := madeCells_toList z hz n
    simp only [madeCells] at ih ⊢
    have hr : (Array.range ((n + 1) * z.size)).toList = (Array.range (n * z.size)).toList ++ (List.range z.size).map (n * z.size + ·) := by
      simp only [Array.toList_range]
      rw [Nat.add_mul, Nat.one_mul, List.range_add]
    simp only [Array.toList_map] at ih ⊢
    rw [hr, List.map_append, ih, List.replicate_succ', List.flatten_append, List.map_map]
    congr 1
    simp only [List.flatten_cons, List.flatten_nil, List.append_nil]
    apply List.ext_getElem
    · simp
    · intro j h1 h2
      simp only [List.length_map, List.length_range] at h1
      have e1 : (n * z.size + j) % z.size = j := by
        rw [Nat.add_comm, Nat.add_mul_mod_self_right, Nat.mod_eq_of_lt h1]
      simp [e1, h1]

theorem own_made {α : Type} {enc : α → List Value} {sz : Nat} (hl : ∀ x, (enc x).length = sz) (hsz : 0 < sz) (e : TypeId) (w : World) (lo : Nat) (n : Nat) (x : α) (z : Value) (hz : z.cells.toList = enc x)
    (hlo : lo ≤ w.heap.size) (hn : n ≤ maxLen) : Own enc sz e (w.alloc (.cells (madeCells z.cells (n * sz)) e)) lo (.slice (some ⟨w.heap.size, 0, none⟩) n n) (List.replicate n x) := by
  have hzs : z.cells.size = sz := by rw [← Array.length_toList, hz, hl]
  have h := Own.of_row (enc := enc) (sz := sz) (e := e) (w := w.alloc (.cells (madeCells z.cells (n * sz)) e)) (lo := lo) (g := w.heap.size) (c := n) (xs := List.replicate n x) (cur := madeCells z.cells (n * sz)) hlo (heap_alloc_new w _) (by simp) hn
    (by rw [size_madeCells]; omega) (by
      rw [List.length_replicate, List.take_of_length_le (by rw [Array.length_toList, size_madeCells]; omega)]
      have := madeCells_toList z.cells (by omega) n
      rw [hzs] at this
      rw [this, hz, List.flatMap_def, List.map_replicate])
  simpa using h
end Go.Proofs.YtajmfonepnkofaaDoor
