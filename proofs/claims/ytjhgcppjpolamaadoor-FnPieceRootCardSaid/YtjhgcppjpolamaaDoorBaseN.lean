/-
  Slices whose elements hold slices: reading, growing ('RdN', 'Grow'); slices of slices of ints. (Printed by gen_basen.py.)
-/
import Derived.Test.YtjhgcppjpolamaaDoorPXe
import Derived.Test.YtjhgcppjpolamaaDoorBaseH
namespace Go.Proofs.YtjhgcppjpolamaaDoor
open Go.RowKit Rg
set_option linter.unusedVariables false
set_option linter.unusedSimpArgs false


/-- What an element's cells hold (all they point to lies in blocks from lo on, below hi). -/
abbrev ElR (α : Type) := World → Nat → Nat → List Value → α → Prop
structure Kept {α : Type} (R : ElR α) : Prop where
  keep : ∀ {w w' : World} {lo hi : Nat} {cs : List Value} {t : α}, R w lo hi cs t → (∀ b, lo ≤ b → b < hi → w'.heap[b]? = w.heap[b]?) → R w' lo hi cs t
  mono : ∀ {w : World} {lo hi lo' hi' : Nat} {cs : List Value} {t : α}, R w lo hi cs t → lo' ≤ lo → hi ≤ hi' → R w lo' hi' cs t

/-- A slice that reads as a list. -/
structure RdN {α : Type} (sz : Nat) (R : ElR α) (w : World) (lo hi : Nat) (A : Option Addr) (n c : Nat) (ts : List α) : Prop where
  len : n = ts.length
  cap : n ≤ c
  max : c ≤ maxLen
  row : ts ≠ [] → ∃ b off, A = some ⟨b, off, none⟩ ∧ lo ≤ b ∧ b < hi ∧ ∀ (i : Nat) (h : i < ts.length), ∃ cs : List Value, cs.length = sz ∧ (∀ (j : Nat) (u : Value), cs[j]? = some u → w.cell? ⟨b, off + i * sz + j, none⟩ = some u) ∧ R w lo hi cs ts[i]

section
variable {α : Type} {sz : Nat} {R : ElR α} {w w' : World} {lo hi : Nat} {A : Option Addr} {n c : Nat} {ts : List α}

theorem RdN.keep (K : Kept R) (h : RdN sz R w lo hi A n c ts) (hk : ∀ b, lo ≤ b → b < hi → w'.heap[b]? = w.heap[b]?) : RdN sz R w' lo hi A n c ts :=
  ⟨h.len, h.cap, h.max, fun hne => by
    obtain ⟨b, off, e, h1, h2, h3⟩ := h.row hne
    refine ⟨b, off, e, h1, h2, fun i hi => ?_⟩
    obtain ⟨cs, h4, h5, h6⟩ := h3 i hi
    exact ⟨cs, h4, fun j u hu => (World.cell?_of_block (hk b h1 h2)).trans (h5 j u hu), K.keep h6 hk⟩⟩
theorem RdN.below (K : Kept R) {B : Nat} (h : RdN sz R w lo hi A n c ts) (hb : Below B w w') (hB : hi ≤ B) : RdN sz R w' lo hi A n c ts :=
  h.keep K fun b _ h2 => hb.block b (by omega)
theorem RdN.mono (K : Kept R) {lo' hi' : Nat} (h : RdN sz R w lo hi A n c ts) (hl : lo' ≤ lo) (hh : hi ≤ hi') : RdN sz R w lo' hi' A n c ts :=
  ⟨h.len, h.cap, h.max, fun hne => by
    obtain ⟨b, off, e, h1, h2, h3⟩ := h.row hne
    refine ⟨b, off, e, by omega, by omega, fun i hi => ?_⟩
    obtain ⟨cs, h4, h5, h6⟩ := h3 i hi
    exact ⟨cs, h4, h5, K.mono h6 hl hh⟩⟩
theorem RdN.nil_ (sz : Nat) (R : ElR α) (w : World) (lo hi : Nat) (A : Option Addr) (c : Nat) (hc : c ≤ maxLen) : RdN sz R w lo hi A 0 c [] := ⟨rfl, Nat.zero_le _, hc, fun h => absurd rfl h⟩
theorem RdN.addr (h : RdN sz R w lo hi A n c ts) {k : Nat} (hk : k < ts.length) : ∃ b off, A = some ⟨b, off, none⟩ ∧ lo ≤ b ∧ b < hi := by
  obtain ⟨b, off, e, h1, h2, _⟩ := h.row (by rintro rfl; simp at hk)
  exact ⟨b, off, e, h1, h2⟩
theorem RdN.at_ {b off : Nat} (h : RdN sz R w lo hi (some ⟨b, off, none⟩) n c ts) {k : Nat} (hk : k < ts.length) : ∃ cs : List Value, cs.length = sz ∧ (∀ (j : Nat) (u : Value), cs[j]? = some u → w.cell? ⟨b, off + k * sz + j, none⟩ = some u) ∧ R w lo hi cs ts[k] := by
  obtain ⟨b', off', e, h1, h2, h3⟩ := h.row (by rintro rfl; simp at hk)
  injection e with e
  injection e with e1 e2
  subst e1; subst e2
  exact h3 k hk
theorem RdN.lt {b off : Nat} (h : RdN sz R w lo hi (some ⟨b, off, none⟩) n c ts) {k : Nat} (hk : k < ts.length) : lo ≤ b ∧ b < hi := by
  obtain ⟨b', off', e, h1, h2⟩ := h.addr hk
  injection e with e
  injection e with e1 e2
  subst e1; subst e2
  exact ⟨h1, h2⟩
/-- 's[:k]' -/
theorem RdN.take_ (h : RdN sz R w lo hi A n c ts) (k : Nat) (hk : k ≤ n) : RdN sz R w lo hi A k c (ts.take k) :=
  ⟨by have := h.len; simp; omega, Nat.le_trans hk h.cap, h.max, fun hne => by
    obtain ⟨b, off, e, h1, h2, h3⟩ := h.row (by rintro rfl; simp at hne)
    refine ⟨b, off, e, h1, h2, fun i hi => ?_⟩
    have hi' : i < ts.length := by simp at hi; omega
    obtain ⟨cs, h4, h5, h6⟩ := h3 i hi'
    exact ⟨cs, h4, h5, by rw [List.getElem_take]; exact h6⟩⟩
/-- 's[k:]' -/
theorem RdN.drop_ {b off : Nat} (h : RdN sz R w lo hi (some ⟨b, off, none⟩) n c ts) (k : Nat) (hk : k ≤ n) : RdN sz R w lo hi (some ⟨b, off + k * sz, none⟩) (n - k) (c - k) (ts.drop k) :=
  ⟨by have := h.len; simp; omega, by have := h.cap; omega, by have := h.max; omega, fun hne => by
    obtain ⟨b', off', e, h1, h2, h3⟩ := h.row (by rintro rfl; simp at hne)
    injection e with e
    injection e with e1 e2
    subst e1; subst e2
    refine ⟨b, _, rfl, h1, h2, fun i hi => ?_⟩
    have hi' : k + i < ts.length := by simp at hi; omega
    obtain ⟨cs, h4, h5, h6⟩ := h3 (k + i) hi'
    refine ⟨cs, h4, fun j u hu => ?_, by rw [List.getElem_drop]; exact h6⟩
    have := h5 j u hu
    rw [Nat.add_mul, ← Nat.add_assoc] at this
    exact this⟩
end

/-- Elements of plain cells. -/
def flatR {α : Type} (enc : α → List Value) : ElR α := fun _ _ _ cs t => cs = enc t
theorem flat_kept {α : Type} (enc : α → List Value) : Kept (flatR enc) := ⟨fun h _ => h, fun h _ _ => h⟩
section
variable {α : Type} {enc : α → List Value} {sz : Nat} {w : World} {lo hi : Nat} {A : Option Addr} {n c : Nat} {xs : List α}
theorem Sl.rdn (hl : ∀ x, (enc x).length = sz) (hs : Sl enc sz w lo hi A xs) (hn : n = xs.length) (hc : n ≤ c) (hm : c ≤ maxLen) : RdN sz (flatR enc) w lo hi A n c xs :=
  ⟨hn, hc, hm, fun hne => by
    obtain ⟨b, off, e, h1, h2, h3⟩ := hs hne
    exact ⟨b, off, e, h1, h2, fun i hi => ⟨enc xs[i], hl _, fun j u hu => h3 i xs[i] (List.getElem?_eq_getElem hi) j u hu, rfl⟩⟩⟩
theorem RdN.sl (h : RdN sz (flatR enc) w lo hi A n c xs) : Sl enc sz w lo hi A xs := fun hne => by
  obtain ⟨b, off, e, h1, h2, h3⟩ := h.row hne
  refine ⟨b, off, e, h1, h2, fun i x hx j u hu => ?_⟩
  have hi : i < xs.length := (List.getElem?_eq_some_iff.1 hx).1
  obtain ⟨cs, h4, h5, h6⟩ := h3 i hi
  have : xs[i] = x := by rw [List.getElem?_eq_getElem hi] at hx; injection hx
  rw [this] at h6
  have h7 : cs = enc x := h6
  rw [← h7] at hu
  exact h5 j u hu
theorem Own.rdn {e : TypeId} (hl : ∀ x, (enc x).length = sz) (h : Own enc sz e w lo (.slice A n c) xs) : RdN sz (flatR enc) w lo w.heap.size A n c xs := by
  obtain ⟨h1, h2, h3⟩ := h.slAt hl
  exact h3.rdn hl h1 h2 h.cap.2
end
/-- An element's cells. -/
def Cs (sz : Nat) : Type := {l : List Value // l.length = sz ∧ ∀ u ∈ l, u.oneCell' = true}
def Cs.val {sz : Nat} (c : Cs sz) : List Value := Subtype.val c
theorem Cs.len {sz : Nat} (c : Cs sz) : c.val.length = sz := c.2.1
theorem Cs.one {sz : Nat} (c : Cs sz) : ∀ u ∈ c.val, u.oneCell' = true := c.2.2

/-- The parts of an element lie in blocks from lo on, that are not the row's own. -/
def Apart {α : Type} (R : ElR α) (w : World) (lo : Nat) (g : Option Nat) (cs : List Value) (t : α) : Prop :=
  ∃ lo' hi', lo ≤ lo' ∧ hi' ≤ w.heap.size ∧ (∀ k, g = some k → hi' ≤ k ∨ k < lo') ∧ R w lo' hi' cs t
/-- A slice of the call's own whose elements hold slices. -/
def Grow {α : Type} (sz : Nat) (e : TypeId) (R : ElR α) (w : World) (lo : Nat) (v : Value) (ts : List α) : Prop :=
  ∃ ls : List (Cs sz), Own Cs.val sz e w lo v ls ∧ ls.length = ts.length ∧ ∀ (i : Nat) (hl : i < ls.length) (ht : i < ts.length), Apart R w lo v.ownBlock ls[i].val ts[i]
section
variable {α : Type} {sz : Nat} {e : TypeId} {R : ElR α} {w w' : World} {lo : Nat} {v v' : Value} {ts : List α} {cs : List Value} {t : α} {g g' : Option Nat}
theorem Apart.keep (K : Kept R) (h : Apart R w lo g cs t) (hz : w.heap.size ≤ w'.heap.size) (hk : ∀ b, lo ≤ b → b < w.heap.size → g ≠ some b → w'.heap[b]? = w.heap[b]?) : Apart R w' lo g cs t := by
  obtain ⟨lo', hi', h1, h2, h3, h4⟩ := h
  refine ⟨lo', hi', h1, by omega, h3, K.keep h4 fun b hb hb2 => hk b (by omega) (by omega) ?_⟩
  intro hg
  have := h3 b hg
  omega
theorem Grow.nil_ (sz : Nat) (e : TypeId) (R : ElR α) (w : World) (lo : Nat) : Grow sz e R w lo (.slice none 0 0) [] := ⟨[], Own.nil_ _ _ _ _ _, rfl, fun i h => absurd h (by simp)⟩
theorem Grow.empty (sz : Nat) (e : TypeId) (R : ElR α) (w : World) : Grow sz e R (w.alloc (.cells #[] e)) w.heap.size (.slice (some ⟨w.heap.size, 0, none⟩) 0 0) [] :=
  ⟨[], by
    have := Own.of_row (enc := (Cs.val : Cs sz → List Value)) (sz := sz) (e := e) (w := w.alloc (.cells #[] e)) (lo := w.heap.size) (xs := []) (g := w.heap.size) (c := 0) (cur := #[]) (Nat.le_refl _) (heap_alloc_new w _) (Nat.le_refl _) (by simp [maxLen]) (by simp) (by simp)
    exact this, rfl, fun i h => absurd h (by simp)⟩
theorem Grow.form (h : Grow sz e R w lo v ts) : ∃ A c, v = .slice A ts.length c ∧ ts.length ≤ c ∧ c ≤ maxLen ∧ (A = none ∨ ∃ g, A = some ⟨g, 0, none⟩ ∧ lo ≤ g ∧ g < w.heap.size) := by
  obtain ⟨ls, h1, h2, _⟩ := h
  obtain ⟨A, c, h3, h4, h5, h6⟩ := h1.form
  rw [h2] at h3 h4
  exact ⟨A, c, h3, h4, h5, h6⟩
theorem Grow.keep (K : Kept R) (h : Grow sz e R w lo v ts) (hz : w.heap.size ≤ w'.heap.size) (hk : ∀ b, lo ≤ b → b < w.heap.size → w'.heap[b]? = w.heap[b]?) : Grow sz e R w' lo v ts := by
  obtain ⟨ls, h1, h2, h3⟩ := h
  exact ⟨ls, h1.keep (fun b hb => hk b (h1.lt b hb).1 (h1.lt b hb).2), h2, fun i hl ht => (h3 i hl ht).keep K hz fun b h4 h5 _ => hk b h4 h5⟩
theorem Grow.below (K : Kept R) {B : Nat} (h : Grow sz e R w lo v ts) (hb : Below B w w') (hB : w.heap.size ≤ B) : Grow sz e R w' lo v ts := h.keep K hb.size fun b _ h2 => hb.block b (by omega)
theorem Grow.mono (K : Kept R) {lo' : Nat} (h : Grow sz e R w lo v ts) (hl : lo' ≤ lo) : Grow sz e R w lo' v ts := by
  obtain ⟨ls, h1, h2, h3⟩ := h
  exact ⟨ls, h1.mono hl, h2, fun i hl ht => by
    obtain ⟨a, b, h4, h5, h6, h7⟩ := h3 i hl ht
    exact ⟨a, b, by omega, h5, h6, h7⟩⟩
theorem Grow.rdn (K : Kept R) {A : Option Addr} {n c : Nat} (h : Grow sz e R w lo (.slice A n c) ts) : RdN sz R w lo w.heap.size A n c ts := by
  obtain ⟨ls, h1, h2, h3⟩ := h
  obtain ⟨h4, h5, h6⟩ := h1.slAt Cs.len
  refine ⟨by omega, h5, h1.cap.2, fun hne => ?_⟩
  have hne' : ls ≠ [] := by
    intro h
    rw [h] at h2
    exact hne (List.eq_nil_of_length_eq_zero h2.symm)
  obtain ⟨b, off, rfl, h7, h8, h9⟩ := h6 hne'
  refine ⟨b, off, rfl, h7, h8, fun i hi => ?_⟩
  have hi' : i < ls.length := by omega
  obtain ⟨a, d, h10, h11, _, h13⟩ := h3 i hi' hi
  exact ⟨ls[i].val, ls[i].len, fun j u hu => h9 i ls[i] (List.getElem?_eq_getElem hi') j u hu, K.mono h13 h10 h11⟩
/-- Behind an append: 'w' the world ahead of it, the new element's parts in blocks from 'lo2' on. -/
theorem Grow.snoc (K : Kept R) (h : Grow sz e R w lo v ts) {ls : List (Cs sz)} {c : Cs sz} (hls : ∀ (i : Nat) (hl : i < ls.length) (ht : i < ts.length), Apart R w lo v.ownBlock ls[i].val ts[i]) (hlen : ls.length = ts.length)
    (ho : Own Cs.val sz e w' lo v' (ls ++ [c])) (hg : w.grownBy w' v.ownBlock) (hloc : v'.ownBlock = v.ownBlock ∨ v'.ownBlock = some w.heap.size)
    {lo2 hi2 : Nat} (h1 : lo ≤ lo2) (h2 : hi2 ≤ w.heap.size) (h3 : ∀ k, v.ownBlock = some k → hi2 ≤ k ∨ k < lo2) (h4 : R w lo2 hi2 c.val t) : Grow sz e R w' lo v' (ts ++ [t]) := by
  have hz := hg.size
  have move : ∀ {cs : List Value} {u : α}, Apart R w lo v.ownBlock cs u → Apart R w' lo v'.ownBlock cs u := by
    intro cs u hu
    have h5 : Apart R w' lo v.ownBlock cs u := hu.keep K hz fun b _ hb hne => hg.block b hb (fun e => hne e.symm)
    obtain ⟨a, b, h6, h7, h8, h9⟩ := h5
    obtain ⟨a', b', h6', h7', h8', h9'⟩ := hu
    rcases hloc with e | e
    · exact ⟨a, b, h6, h7, by rw [e]; exact h8, h9⟩
    · refine ⟨a', b', h6', by omega, fun k hk => ?_, K.keep h9' fun x hx hx2 => hg.block x (by omega) (fun e2 => by have := h8' x e2.symm; omega)⟩
      rw [e] at hk
      injection hk with hk
      omega
  refine ⟨ls ++ [c], ho, by simp [hlen], fun i hl ht => ?_⟩
  by_cases hi : i < ls.length
  · have hi2 : i < ts.length := by omega
    rw [List.getElem_append_left hi, List.getElem_append_left hi2]
    exact move (hls i hi hi2)
  · have hi3 : i = ls.length := by simp at hl; omega
    subst hi3
    have e1 : (ls ++ [c])[ls.length]'hl = c := by simp
    have e2 : (ts ++ [t])[ls.length]'ht = t := by
      rw [List.getElem_append_right (by omega)]
      simp [hlen]
    rw [e1, e2]
    exact move ⟨lo2, hi2, h1, h2, h3, h4⟩
end


/-- A slice of ints as an element. -/
def rowR : ElR (List Int) := fun w lo hi cs L => ∃ A n c, cs = [.slice A n c] ∧ n = L.length ∧ n ≤ c ∧ c ≤ maxLen ∧ Sl encI 1 w lo hi A L
theorem row_kept : Kept rowR := ⟨fun ⟨A, n, c, h1, h2, h3, h4, h5⟩ hk => ⟨A, n, c, h1, h2, h3, h4, h5.keep hk⟩, fun ⟨A, n, c, h1, h2, h3, h4, h5⟩ a b => ⟨A, n, c, h1, h2, h3, h4, h5.mono a b⟩⟩
end Go.Proofs.YtjhgcppjpolamaaDoor
