/-
  Nested data: slices whose elements hold slices; fresh ones; readers of a law's nested arguments. (Printed by gen_pya.py out of NA, NF, NK, NO.)
-/
import Derived.Test.YtjhgcppjpolamaaDoorPXt
import Derived.Test.YtjhgcppjpolamaaDoorPI
import Derived.Test.YtjhgcppjpolamaaDoorOpen
import Derived.WalkSpells
import Derived.WalkLawsBesides
import Derived.ProofKit
namespace Go.Proofs.YtjhgcppjpolamaaDoor
open Go Go.RowKit Rg Go.WideShapes Go.ChangeShapes Go.Deep
set_option linter.unusedVariables false
set_option linter.unusedSimpArgs false

/-- What an element's cells hold (all they point to lies in blocks from lo on, below hi). -/
abbrev ElR (α : Type) := World → Nat → Nat → List Value → α → Prop
structure Kept {α : Type} (R : ElR α) : Prop where
  keep : ∀ {w w' : World} {lo hi : Nat} {cs : List Value} {t : α}, R w lo hi cs t → (∀ b, lo ≤ b → b < hi → w'.heap[b]? = w.heap[b]?) → R w' lo hi cs t
  mono : ∀ {w : World} {lo hi lo' hi' : Nat} {cs : List Value} {t : α}, R w lo hi cs t → lo' ≤ lo → hi ≤ hi' → R w lo' hi' cs t

/-- A slice that reads as a list. -/
structure RdN {α : Type} (sz : Nat) (R : ElR α) (w : World) (lo hi : Nat) (A : Option Addr) (n c : Nat) (ts : List α) : Prop where
  len : n = ts.length
  cap : n ≤ c
  max : c ≤ maxLen
  row : ts ≠ [] → ∃ b off, A = some ⟨b, off, none⟩ ∧ lo ≤ b ∧ b < hi ∧ ∀ (i : Nat) (h : i < ts.length), ∃ cs : List Value, cs.length = sz ∧ (∀ (j : Nat) (u : Value), cs[j]? = some u → w.cell? ⟨b, off + i * sz + j, none⟩ = some u) ∧ R w lo hi cs ts[i]

section
variable {α : Type} {sz : Nat} {R : ElR α} {w w' : World} {lo hi : Nat} {A : Option Addr} {n c : Nat} {ts : List α}

theorem RdN.keep (K : Kept R) (h : RdN sz R w lo hi A n c ts) (hk : ∀ b, lo ≤ b → b < hi → w'.heap[b]? = w.heap[b]?) : RdN sz R w' lo hi A n c ts :=
  ⟨h.len, h.cap, h.max, fun hne => by
    obtain ⟨b, off, e, h1, h2, h3⟩ := h.row hne
    refine ⟨b, off, e, h1, h2, fun i hi => ?_⟩
    obtain ⟨cs, h4, h5, h6⟩ := h3 i hi
    exact ⟨cs, h4, fun j u hu => (World.cell?_of_block (hk b h1 h2)).trans (h5 j u hu), K.keep h6 hk⟩⟩
theorem RdN.below (K : Kept R) {B : Nat} (h : RdN sz R w lo hi A n c ts) (hb : Below B w w') (hB : hi ≤ B) : RdN sz R w' lo hi A n c ts :=
  h.keep K fun b _ h2 => hb.block b (by omega)
theorem RdN.mono (K : Kept R) {lo' hi' : Nat} (h : RdN sz R w lo hi A n c ts) (hl : lo' ≤ lo) (hh : hi ≤ hi') : RdN sz R w lo' hi' A n c ts :=
  ⟨h.len, h.cap, h.max, fun hne => by
    obtain ⟨b, off, e, h1, h2, h3⟩ := h.row hne
    refine ⟨b, off, e, by omega, by omega, fun i hi => ?_⟩
    obtain ⟨cs, h4, h5, h6⟩ := h3 i hi
    exact ⟨cs, h4, h5, K.mono h6 hl hh⟩⟩
theorem RdN.nil_ (sz : Nat) (R : ElR α) (w : World) (lo hi : Nat) (A : Option Addr) (c : Nat) (hc : c ≤ maxLen) : RdN sz R w lo hi A 0 c [] := ⟨rfl, Nat.zero_le _, hc, fun h => absurd rfl h⟩
theorem RdN.addr (h : RdN sz R w lo hi A n c ts) {k : Nat} (hk : k < ts.length) : ∃ b off, A = some ⟨b, off, none⟩ ∧ lo ≤ b ∧ b < hi := by
  obtain ⟨b, off, e, h1, h2, _⟩ := h.row (by rintro rfl; simp at hk)
  exact ⟨b, off, e, h1, h2⟩
theorem RdN.at_ {b off : Nat} (h : RdN sz R w lo hi (some ⟨b, off, none⟩) n c ts) {k : Nat} (hk : k < ts.length) : ∃ cs : List Value, cs.length = sz ∧ (∀ (j : Nat) (u : Value), cs[j]? = some u → w.cell? ⟨b, off + k * sz + j, none⟩ = some u) ∧ R w lo hi cs ts[k] := by
  obtain ⟨b', off', e, h1, h2, h3⟩ := h.row (by rintro rfl; simp at hk)
  injection e with e
  injection e with e1 e2
  subst e1; subst e2
  exact h3 k hk
theorem RdN.lt {b off : Nat} (h : RdN sz R w lo hi (some ⟨b, off, none⟩) n c ts) {k : Nat} (hk : k < ts.length) : lo ≤ b ∧ b < hi := by
  obtain ⟨b', off', e, h1, h2⟩ := h.addr hk
  injection e with e
  injection e with e1 e2
  subst e1; subst e2
  exact ⟨h1, h2⟩
/-- 's[:k]' -/
theorem RdN.take_ (h : RdN sz R w lo hi A n c ts) (k : Nat) (hk : k ≤ n) : RdN sz R w lo hi A k c (ts.take k) :=
  ⟨by have := h.len; simp; omega, Nat.le_trans hk h.cap, h.max, fun hne => by
    obtain ⟨b, off, e, h1, h2, h3⟩ := h.row (by rintro rfl; simp at hne)
    refine ⟨b, off, e, h1, h2, fun i hi => ?_⟩
    have hi' : i < ts.length := by simp at hi; omega
    obtain ⟨cs, h4, h5, h6⟩ := h3 i hi'
    exact ⟨cs, h4, h5, by rw [List.getElem_take]; exact h6⟩⟩
/-- 's[k:]' -/
theorem RdN.drop_ {b off : Nat} (h : RdN sz R w lo hi (some ⟨b, off, none⟩) n c ts) (k : Nat) (hk : k ≤ n) : RdN sz R w lo hi (some ⟨b, off + k * sz, none⟩) (n - k) (c - k) (ts.drop k) :=
  ⟨by have := h.len; simp; omega, by have := h.cap; omega, by have := h.max; omega, fun hne => by
    obtain ⟨b', off', e, h1, h2, h3⟩ := h.row (by rintro rfl; simp at hne)
    injection e with e
    injection e with e1 e2
    subst e1; subst e2
    refine ⟨b, _, rfl, h1, h2, fun i hi => ?_⟩
    have hi' : k + i < ts.length := by simp at hi; omega
    obtain ⟨cs, h4, h5, h6⟩ := h3 (k + i) hi'
    refine ⟨cs, h4, fun j u hu => ?_, by rw [List.getElem_drop]; exact h6⟩
    have := h5 j u hu
    rw [Nat.add_mul, ← Nat.add_assoc] at this
    exact this⟩
end

/-- Elements of plain cells. -/
def flatR {α : Type} (enc : α → List Value) : ElR α := fun _ _ _ cs t => cs = enc t
theorem flat_kept {α : Type} (enc : α → List Value) : Kept (flatR enc) := ⟨fun h _ => h, fun h _ _ => h⟩
section
variable {α : Type} {enc : α → List Value} {sz : Nat} {w : World} {lo hi : Nat} {A : Option Addr} {n c : Nat} {xs : List α}
theorem Sl.rdn (hl : ∀ x, (enc x).length = sz) (hs : Sl enc sz w lo hi A xs) (hn : n = xs.length) (hc : n ≤ c) (hm : c ≤ maxLen) : RdN sz (flatR enc) w lo hi A n c xs :=
  ⟨hn, hc, hm, fun hne => by
    obtain ⟨b, off, e, h1, h2, h3⟩ := hs hne
    exact ⟨b, off, e, h1, h2, fun i hi => ⟨enc xs[i], hl _, fun j u hu => h3 i xs[i] (List.getElem?_eq_getElem hi) j u hu, rfl⟩⟩⟩
theorem RdN.sl (h : RdN sz (flatR enc) w lo hi A n c xs) : Sl enc sz w lo hi A xs := fun hne => by
  obtain ⟨b, off, e, h1, h2, h3⟩ := h.row hne
  refine ⟨b, off, e, h1, h2, fun i x hx j u hu => ?_⟩
  have hi : i < xs.length := (List.getElem?_eq_some_iff.1 hx).1
  obtain ⟨cs, h4, h5, h6⟩ := h3 i hi
  have : xs[i] = x := by rw [List.getElem?_eq_getElem hi] at hx; injection hx
  rw [this] at h6
  have h7 : cs = enc x := h6
  rw [← h7] at hu
  exact h5 j u hu
theorem Own.rdn {e : TypeId} (hl : ∀ x, (enc x).length = sz) (h : Own enc sz e w lo (.slice A n c) xs) : RdN sz (flatR enc) w lo w.heap.size A n c xs := by
  obtain ⟨h1, h2, h3⟩ := h.slAt hl
  exact h3.rdn hl h1 h2 h.cap.2
end

theorem sum_at {α : Type} (f : α → Nat) : ∀ (ts : List α) (k : Nat) (hk : k < ts.length), f ts[k] ≤ (ts.map f).sum
  | t :: ts, 0, _ => by simp only [List.getElem_cons_zero, List.map_cons, List.sum_cons]; omega
  | t :: ts, k + 1, hk => by
    have := sum_at f ts k (by simpa using hk)
    simp only [List.getElem_cons_succ, List.map_cons, List.sum_cons]
    omega
theorem sum_take_succ {α : Type} (f : α → Nat) (ts : List α) (k : Nat) (hk : k < ts.length) : ((ts.take (k + 1)).map f).sum = ((ts.take k).map f).sum + f ts[k] := by
  rw [List.take_succ_eq_append_getElem hk, List.map_append, List.sum_append]
  simp only [List.map_cons, List.map_nil, List.sum_cons, List.sum_nil]
  omega
theorem sum_take_le {α : Type} (f : α → Nat) (ts : List α) (k : Nat) : ((ts.take k).map f).sum ≤ (ts.map f).sum := by
  have : ts.map f = (ts.take k).map f ++ (ts.drop k).map f := by rw [← List.map_append, List.take_append_drop]
  rw [this, List.sum_append]
  omega
/-- What a size check returns. -/
def szO (left total : Nat) : Int := if left < total then -1 else (left : Int) - total
/-- An element's cells. -/
def Cs (sz : Nat) : Type := {l : List Value // l.length = sz ∧ ∀ u ∈ l, u.oneCell' = true}
def Cs.val {sz : Nat} (c : Cs sz) : List Value := Subtype.val c
theorem Cs.len {sz : Nat} (c : Cs sz) : c.val.length = sz := c.2.1
theorem Cs.one {sz : Nat} (c : Cs sz) : ∀ u ∈ c.val, u.oneCell' = true := c.2.2
/-- The elements' parts, in blocks from lo on, below hi: each behind the one before. -/
def FL {α : Type} {sz : Nat} (F : ElR α) (w : World) : Nat → Nat → List (Cs sz) → List α → Prop
  | lo, hi, [], [] => lo ≤ hi
  | lo, hi, c :: cs, t :: ts => ∃ m, lo ≤ m ∧ F w lo m c.val t ∧ FL F w m hi cs ts
  | _, _, [], _ :: _ => False
  | _, _, _ :: _, [] => False
section
variable {α : Type} {sz : Nat} {F R : ElR α} {w w' : World}
theorem FL.le : ∀ {lo hi : Nat} {cs : List (Cs sz)} {ts : List α}, FL F w lo hi cs ts → lo ≤ hi
  | lo, hi, [], [], h => h
  | lo, hi, c :: cs, t :: ts, ⟨m, h1, _, h2⟩ => Nat.le_trans h1 h2.le
theorem FL.len : ∀ {lo hi : Nat} {cs : List (Cs sz)} {ts : List α}, FL F w lo hi cs ts → cs.length = ts.length
  | lo, hi, [], [], h => rfl
  | lo, hi, c :: cs, t :: ts, ⟨m, h1, _, h2⟩ => by simp [h2.len]
theorem FL.keep (K : Kept F) : ∀ {lo hi : Nat} {cs : List (Cs sz)} {ts : List α}, FL F w lo hi cs ts → (∀ b, lo ≤ b → b < hi → w'.heap[b]? = w.heap[b]?) → FL F w' lo hi cs ts
  | lo, hi, [], [], h, _ => h
  | lo, hi, c :: cs, t :: ts, ⟨m, h1, h3, h2⟩, hk => ⟨m, h1, K.keep h3 (fun b hb hb2 => hk b hb (by have := h2.le; omega)), h2.keep K (fun b hb hb2 => hk b (by omega) hb2)⟩
theorem FL.snoc (K : Kept F) : ∀ {lo mid hi : Nat} {cs : List (Cs sz)} {ts : List α} {c : Cs sz} {t : α}, FL F w lo mid cs ts → mid ≤ hi → F w mid hi c.val t → FL F w lo hi (cs ++ [c]) (ts ++ [t])
  | lo, mid, hi, [], [], c, t, h, hm, h2 => ⟨hi, by have h' : lo ≤ mid := h; omega, K.mono h2 h (Nat.le_refl _), Nat.le_refl _⟩
  | lo, mid, hi, d :: cs, u :: ts, c, t, ⟨m, h1, h3, h2⟩, hm, h4 => ⟨m, h1, h3, h2.snoc K hm h4⟩
theorem FL.hi_mono : ∀ {lo hi hi' : Nat} {cs : List (Cs sz)} {ts : List α}, FL F w lo hi cs ts → hi ≤ hi' → FL F w lo hi' cs ts
  | lo, hi, hi', [], [], h, hh => Nat.le_trans h hh
  | lo, hi, hi', c :: cs, t :: ts, ⟨m, h1, h3, h2⟩, hh => ⟨m, h1, h3, h2.hi_mono hh⟩
theorem FL.at_ (K : Kept F) : ∀ {lo hi : Nat} {cs : List (Cs sz)} {ts : List α}, FL F w lo hi cs ts → ∀ (i : Nat) (hc : i < cs.length) (ht : i < ts.length), F w lo hi cs[i].val ts[i]
  | lo, hi, [], [], h, i, hc, _ => absurd hc (by simp)
  | lo, hi, c :: cs, t :: ts, ⟨m, h1, h3, h2⟩, 0, _, _ => K.mono h3 (Nat.le_refl _) h2.le
  | lo, hi, c :: cs, t :: ts, ⟨m, h1, h3, h2⟩, i + 1, hc, ht => K.mono (h2.at_ K i (by simpa using hc) (by simpa using ht)) h1 (Nat.le_refl _)
end

/-- A nested slice that the call itself made. -/
def Fr {α : Type} (sz : Nat) (e : TypeId) (F : ElR α) (w : World) (lo hi : Nat) (A : Option Addr) (n c : Nat) (ts : List α) : Prop :=
  ∃ (g : Nat) (ls : List (Cs sz)), A = some ⟨g, 0, none⟩ ∧ lo ≤ g ∧ g < hi ∧ Own Cs.val sz e w lo (.slice A n c) ls ∧ FL F w (g + 1) hi ls ts
section
variable {α : Type} {sz : Nat} {e : TypeId} {F R : ElR α} {w w' : World} {lo hi n c : Nat} {A : Option Addr} {ts : List α}
theorem Fr.keep (K : Kept F) (h : Fr sz e F w lo hi A n c ts) (hk : ∀ b, lo ≤ b → b < hi → w'.heap[b]? = w.heap[b]?) : Fr sz e F w' lo hi A n c ts := by
  obtain ⟨g, ls, rfl, h1, h2, h3, h4⟩ := h
  exact ⟨g, ls, rfl, h1, h2, h3.keep (fun b hb => by simp [Value.ownBlock] at hb; subst hb; exact hk _ h1 h2), h4.keep K (fun b hb hb2 => hk b (by omega) hb2)⟩
theorem Fr.mono (K : Kept F) {lo' hi' : Nat} (h : Fr sz e F w lo hi A n c ts) (hl : lo' ≤ lo) (hh : hi ≤ hi') : Fr sz e F w lo' hi' A n c ts := by
  obtain ⟨g, ls, rfl, h1, h2, h3, h4⟩ := h
  exact ⟨g, ls, rfl, by omega, by omega, h3.mono hl, h4.hi_mono hh⟩
theorem Fr.len (h : Fr sz e F w lo hi A n c ts) : n = ts.length := by
  obtain ⟨g, ls, rfl, h1, h2, h3, h4⟩ := h
  rw [h3.lenEq, h4.len]
theorem Fr.below (K : Kept F) {B : Nat} (h : Fr sz e F w lo hi A n c ts) (hb : Below B w w') (hB : hi ≤ B) : Fr sz e F w' lo hi A n c ts := h.keep K fun b _ h2 => hb.block b (by omega)
theorem Fr.rdn (K : Kept F) (KR : Kept R) (hF : ∀ {w lo hi cs t}, F w lo hi cs t → R w lo hi cs t) (h : Fr sz e F w lo hi A n c ts) : RdN sz R w lo hi A n c ts := by
  obtain ⟨g, ls, rfl, h1, h2, h3, h4⟩ := h
  have hl := h4.len
  obtain ⟨hn, hnc, hs⟩ := h3.slAt Cs.len
  refine ⟨by rw [hn, hl], hnc, h3.cap.2, fun hne => ?_⟩
  have hne' : ls ≠ [] := by
    intro h
    rw [h] at hl
    exact hne (List.eq_nil_of_length_eq_zero hl.symm)
  obtain ⟨b, off, he, _, _, h6⟩ := hs hne'
  injection he with he
  injection he with e1 e2
  subst e1; subst e2
  refine ⟨g, 0, rfl, h1, h2, fun i hi => ?_⟩
  have hi' : i < ls.length := by omega
  exact ⟨ls[i].val, ls[i].len, fun j u hu => h6 i ls[i] (List.getElem?_eq_getElem hi') j u hu, KR.mono (hF (h4.at_ K i hi' hi)) (by omega) (Nat.le_refl _)⟩
end

/-- A plain slice of the call's own, its block below hi. -/
def OwnB {α : Type} (enc : α → List Value) (sz : Nat) (e : TypeId) (w : World) (lo hi : Nat) (A : Option Addr) (n c : Nat) (xs : List α) : Prop :=
  Own enc sz e w lo (.slice A n c) xs ∧ ∀ k, (Value.slice A n c).ownBlock = some k → k < hi
section
variable {α : Type} {enc : α → List Value} {sz : Nat} {e : TypeId} {w w' : World} {lo hi n c : Nat} {A : Option Addr} {xs : List α}
theorem OwnB.keep (h : OwnB enc sz e w lo hi A n c xs) (hk : ∀ b, lo ≤ b → b < hi → w'.heap[b]? = w.heap[b]?) : OwnB enc sz e w' lo hi A n c xs :=
  ⟨h.1.keep fun b hb => hk b (h.1.lt b hb).1 (h.2 b hb), h.2⟩
theorem OwnB.mono {lo' hi' : Nat} (h : OwnB enc sz e w lo hi A n c xs) (hl : lo' ≤ lo) (hh : hi ≤ hi') : OwnB enc sz e w lo' hi' A n c xs :=
  ⟨h.1.mono hl, fun k hk => by have := h.2 k hk; omega⟩
theorem Own.ownB (h : Own enc sz e w lo (.slice A n c) xs) : OwnB enc sz e w lo w.heap.size A n c xs := ⟨h, fun k hk => (h.lt k hk).2⟩
theorem OwnB.rdn (hl : ∀ x, (enc x).length = sz) (h : OwnB enc sz e w lo hi A n c xs) : RdN sz (flatR enc) w lo hi A n c xs := by
  obtain ⟨h1, h2, h3⟩ := h.1.slAt hl
  refine Sl.rdn hl (fun hne => ?_) h1 h2 h.1.cap.2
  obtain ⟨b, off, rfl, h4, h5, h6⟩ := h3 hne
  have hk : 0 < n := by
    have : xs.length ≠ 0 := fun h => hne (List.eq_nil_of_length_eq_zero h)
    omega
  obtain ⟨g, he, _, _⟩ := h.1.addrAt hk
  injection he with he
  injection he with e1 e2
  exact ⟨b, off, rfl, h4, h.2 b (by subst e2; simp [Value.ownBlock]), h6⟩
end

/-- Nothing from block K on is written. -/
structure Above (K : Nat) (w w' : World) : Prop where
  keep : ∀ b, K ≤ b → w'.heap[b]? = w.heap[b]?
section
variable {K : Nat} {a w w' : World}
theorem Above.refl (K : Nat) (w : World) : Above K w w := ⟨fun _ _ => rfl⟩
theorem Above.setCell (h : Above K a w) {p : Addr} (hp : p.block < K) (u : Value) : Above K a (w.setCell p u) := ⟨fun b hb => (Below.heap_setCell w p u b (by omega)).trans (h.keep b hb)⟩
theorem Above.drew (h : Above K a w) : Above K a w.drew := ⟨h.keep⟩
theorem Above.put {g : Nat} (hg : g < K) (us : List Value) : ∀ {w : World} {j : Nat}, Above K a w → Above K a (putCells w g j us) := by
  induction us with
  | nil => intro w j h; exact h
  | cons u us ih => intro w j h; exact ih (h.setCell (p := ⟨g, j, none⟩) hg u)
end
theorem Own.cellAt {α : Type} {enc : α → List Value} {sz lo g n c k : Nat} {e : TypeId} {w : World} {xs : List α} (hl : ∀ x, (enc x).length = sz) (h : Own enc sz e w lo (.slice (some ⟨g, 0, none⟩) n c) xs) (hk : k < n) (j : Nat) (hj : j < sz) : ∃ u, w.cell? ⟨g, k * sz + j, none⟩ = some u := by
  obtain ⟨rfl, _, hs⟩ := h.slAt hl
  have hj' : j < (enc xs[k]).length := by rw [hl]; exact hj
  have := hs.at_ hk j _ (List.getElem?_eq_getElem hj')
  rw [Nat.zero_add] at this
  exact ⟨_, this⟩
theorem Own.cellAt0 {α : Type} {enc : α → List Value} {sz lo g n c k : Nat} {e : TypeId} {w : World} {xs : List α} (hl : ∀ x, (enc x).length = sz) (h : Own enc sz e w lo (.slice (some ⟨g, 0, none⟩) n c) xs) (hk : k < n) (hj : 0 < sz) : ∃ u, w.cell? ⟨g, k * sz, none⟩ = some u := h.cellAt hl hk 0 hj
theorem Own.above {α : Type} {enc : α → List Value} {sz lo K : Nat} {e : TypeId} {w w' : World} {v : Value} {xs : List α} (h : Own enc sz e w lo v xs) (hA : Above K w w') (hK : K ≤ lo) : Own enc sz e w' lo v xs :=
  h.keep fun b hb => hA.keep b (by have := (h.lt b hb).1; omega)
theorem OwnB.above {α : Type} {enc : α → List Value} {sz lo hi n c K : Nat} {A : Option Addr} {e : TypeId} {w w' : World} {xs : List α} (h : OwnB enc sz e w lo hi A n c xs) (hA : Above K w w') (hK : K ≤ lo) : OwnB enc sz e w' lo hi A n c xs :=
  h.keep fun b hb _ => hA.keep b (by omega)
theorem OwnB.below {α : Type} {enc : α → List Value} {sz lo hi n c B : Nat} {A : Option Addr} {e : TypeId} {w w' : World} {xs : List α} (h : OwnB enc sz e w lo hi A n c xs) (hb : Below B w w') (hB : hi ≤ B) : OwnB enc sz e w' lo hi A n c xs :=
  h.keep fun b _ h2 => hb.block b (by omega)
theorem Fr.above {α : Type} {sz : Nat} {e : TypeId} {F : ElR α} {w w' : World} {lo hi n c K : Nat} {A : Option Addr} {ts : List α} (K' : Kept F) (h : Fr sz e F w lo hi A n c ts) (hA : Above K w w') (hK : K ≤ lo) : Fr sz e F w' lo hi A n c ts :=
  h.keep K' fun b hb _ => hA.keep b (by omega)
theorem FL.above {α : Type} {sz : Nat} {F : ElR α} {w w' : World} {lo hi K : Nat} {cs : List (Cs sz)} {ts : List α} (K' : Kept F) (h : FL F w lo hi cs ts) (hA : Above K w w') (hK : K ≤ lo) : FL F w' lo hi cs ts :=
  h.keep K' fun b hb _ => hA.keep b (by omega)
/-- Zero elements. -/
theorem own_madeC {sz : Nat} (hsz : 0 < sz) (e : TypeId) (w : World) (lo : Nat) (n : Nat) (x : Cs sz) (z : Value) (hz : z.cells.toList = x.val) (hlo : lo ≤ w.heap.size) (hn : n ≤ maxLen) :
    Own Cs.val sz e (w.alloc (.cells (madeCells z.cells (n * sz)) e)) lo (.slice (some ⟨w.heap.size, 0, none⟩) n n) (List.replicate n x) := own_made Cs.len hsz e w lo n x z hz hlo hn
theorem set_at_len {α : Type} (xs : List α) (z x : α) (k n : Nat) (hn : xs.length = k) (hk : k < n) : (xs ++ List.replicate (n - k) z).set k x = (xs ++ [x]) ++ List.replicate (n - (k + 1)) z := by
  subst hn
  rw [List.set_append_right _ _ (Nat.le_refl _), Nat.sub_self, show n - xs.length = (n - (xs.length + 1)) + 1 by omega, List.replicate_succ, List.set_cons_zero, List.append_assoc]
  rfl
theorem szO_yes {l t : Nat} (h : t ≤ l) : szO l t = ((l - t : Nat) : Int) := by unfold szO; rw [if_neg (by omega)]; omega
theorem szO_no {l t : Nat} (h : l < t) : szO l t = -1 := by unfold szO; rw [if_pos h]
theorem heap3 (w : World) (a b c : Obj) : (((w.alloc a).alloc b).alloc c).heap[w.heap.size]? = some a ∧ (((w.alloc a).alloc b).alloc c).heap[w.heap.size + 1]? = some b ∧ (((w.alloc a).alloc b).alloc c).heap[w.heap.size + 1 + 1]? = some c ∧ (((w.alloc a).alloc b).alloc c).heap.size = w.heap.size + 1 + 1 + 1 := by
  have s1 : (w.alloc a).heap.size = w.heap.size + 1 := by simp
  have s2 : ((w.alloc a).alloc b).heap.size = w.heap.size + 1 + 1 := by simp
  have k1 := heap_alloc_new w a
  have k2 := heap_alloc_new (w.alloc a) b
  have k3 := heap_alloc_new ((w.alloc a).alloc b) c
  have b2 := (Below.refl (w.alloc a).heap.size (w.alloc a)).alloc (Nat.le_refl _) b
  have b3 := (Below.refl ((w.alloc a).alloc b).heap.size ((w.alloc a).alloc b)).alloc (Nat.le_refl _) c
  rw [s1] at k2 b2
  rw [s2] at k3 b3
  exact ⟨(b3.block _ (by omega)).trans ((b2.block _ (by omega)).trans k1), (b3.block _ (by omega)).trans k2, k3, by simp⟩
theorem below_drewN (w : World) (q : Nat) : Below w.heap.size w (w.drewN q) := ⟨rfl, rfl, rfl, Nat.le_refl _, fun _ _ => rfl⟩
theorem keepf {w w' : World} (hb : Below w.heap.size w w') {b j : Nat} (hl : b < w.heap.size) (h : w.frozen? ⟨b, j, none⟩ = false) : w'.frozen? ⟨b, j, none⟩ = false := by
  have := hb.block b hl
  simp only [World.frozen?, this] at h ⊢
  exact h
section
variable {H : Type} {enc : TypeId × Value → H} {P : Program} {w : World} {base : Nat} {spare : Nat → Bool} {held : Bool}
theorem trod_fields {t : TypeId} {fs : Array Field} {fuel : Nat} {cs : List Value} {x : DataW H × List MemPlace} (ht : P.underlying t = some (.struct fs)) (h : DataW.trod enc P w base spare held fuel t cs = some x) :
    cs.length = P.cellsOf t ∧ ∀ (i : Nat) (f : Field), fs[i]? = some f → ∃ (n : Nat) (y : DataW H × List MemPlace), DataW.trod enc P w base spare held n f.type ((cs.drop f.offset).take (P.cellsOf f.type)) = some y := by
  obtain ⟨ys, n, _, _, hlen, hys, hf⟩ := DataW.trod_struct ht h
  refine ⟨hlen, fun i f hfi => ?_⟩
  have hi : i < ys.length := by rw [hys]; exact (Array.getElem?_eq_some_iff.1 hfi).1
  exact ⟨n, ys[i], (hf i f hfi).trans (List.getElem?_eq_getElem hi)⟩
/-- A slice, its elements read by 'helem'. -/
theorem trod_rdn {α : Type} {R : ElR α} {sz : Nat} {t e : TypeId} {fuel : Nat} {v : Value} {x : DataW H × List MemPlace} (ht : P.underlying t = some (.slice e)) (hC : P.cellsOf e = sz) (hsz : 0 < sz)
    (h : DataW.trod enc P w base spare held fuel t [v] = some x)
    (helem : ∀ (n : Nat) (cs : List Value) (y : DataW H × List MemPlace), DataW.trod enc P w base spare held n e cs = some y → cs.length = sz ∧ ∃ t : α, R w 0 w.heap.size cs t) :
    ∃ A n c, ∃ ts : List α, v = .slice A n c ∧ RdN sz R w 0 w.heap.size A n c ts := by
  rcases open_slice ht h with ⟨hcs, _⟩ | ⟨a, len, cap, m, n, D, Pl, hcs, hb, hl1, hm, hmm, hx, hi⟩
  · injection hcs with hv
    exact ⟨none, 0, 0, [], hv, RdN.nil_ _ _ _ _ _ _ _ (by simp [maxLen])⟩
  · injection hcs with hv
    have hlm : len ≤ m := by rw [hmm]; split <;> omega
    have hall : ∀ i, i < len → ∃ (y : α) (cs : List Value), cs.length = sz ∧ (∀ (j : Nat) (u : Value), cs[j]? = some u → w.cell? ((a.add (i * sz)).add j) = some u) ∧ R w 0 w.heap.size cs y := by
      intro i hil
      obtain ⟨cs', hc, ht'⟩ := hi i (by omega)
      rw [hC] at hc
      obtain ⟨_, hcl, hat⟩ := World.cells?_some hc
      obtain ⟨hl, y, hy⟩ := helem n cs' _ ht'
      refine ⟨y, cs', hl, fun j u hu => ?_, hy⟩
      have hj : j < sz := by rw [← hl]; exact (List.getElem?_eq_some_iff.1 hu).1
      rw [hat j hj]
      exact hu
    have hlist : ∀ k, k ≤ len → ∃ ts : List α, ts.length = k ∧ ∀ (i : Nat) (h : i < ts.length), ∃ cs : List Value, cs.length = sz ∧ (∀ (j : Nat) (u : Value), cs[j]? = some u → w.cell? ((a.add (i * sz)).add j) = some u) ∧ R w 0 w.heap.size cs ts[i] := by
      intro k
      induction k with
      | zero => intro _; exact ⟨[], rfl, fun i h => absurd h (by simp)⟩
      | succ k ih =>
        intro hk
        obtain ⟨ts, htl, h1⟩ := ih (by omega)
        obtain ⟨y, cs, hy⟩ := hall k (by omega)
        refine ⟨ts ++ [y], by simp [htl], fun i hi => ?_⟩
        by_cases hik : i < k
        · rw [List.getElem_append_left (by omega)]
          exact h1 i (by omega)
        · obtain rfl : i = k := by simp [htl] at hi; omega
          rw [List.getElem_append_right (by omega)]
          simp only [htl, Nat.sub_self, List.getElem_cons_zero]
          exact ⟨cs, hy⟩
    obtain ⟨ts, htl, h1⟩ := hlist len (Nat.le_refl _)
    refine ⟨some a, len, cap, ts, hv, htl.symm, hl1, hm, fun hne => ?_⟩
    have h0 : 0 < ts.length := by
      rcases Nat.eq_zero_or_pos ts.length with h | h
      · exact absurd (List.eq_nil_of_length_eq_zero h) hne
      · exact h
    obtain ⟨cs, h2, h3, h4⟩ := h1 0 h0
    have hc0 := h3 0 (cs[0]'(by omega)) (List.getElem?_eq_getElem _)
    obtain ⟨b, off, spot⟩ := a
    have hspot : spot = none := by
      have := World.cell?_spot hc0
      unfold Addr.add at this
      split at this <;> split at this <;> simp_all
    subst hspot
    have hadd : ∀ i j : Nat, ((⟨b, off, none⟩ : Addr).add i).add j = ⟨b, off + i + j, none⟩ := by
      intro i j
      unfold Addr.add
      by_cases hi0 : i = 0 <;> by_cases hj0 : j = 0 <;> simp [hi0, hj0]
    refine ⟨b, off, rfl, Nat.zero_le _, ?_, fun i hi => ?_⟩
    · have := hc0
      rw [hadd] at this
      rcases Nat.lt_or_ge b w.heap.size with h1 | h1
      · exact h1
      · simp [World.cell?, Array.getElem?_eq_none h1] at this
    · obtain ⟨cs, h2, h3, h4⟩ := h1 i hi
      refine ⟨cs, h2, fun j u hu => ?_, h4⟩
      have := h3 j u hu
      rw [hadd] at this
      exact this
theorem one_of_take {cs : List Value} {k n : Nat} (hl : cs.length = n) (hk : k < n) : ∃ v, (cs.drop k).take 1 = [v] := by
  rw [List.drop_eq_getElem_cons (by omega)]
  exact ⟨_, rfl⟩
end

end Go.Proofs.YtjhgcppjpolamaaDoor
