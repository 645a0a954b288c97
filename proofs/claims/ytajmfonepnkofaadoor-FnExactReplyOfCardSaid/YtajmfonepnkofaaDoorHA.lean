/-
  Games in memory: three slices; how they read, what keeps that.
  Conditions: none.
-/
import Derived.Test.YtajmfonepnkofaaDoorHI
import Derived.Test.YtajmfonepnkofaaDoorHW
import Derived.Test.YtajmfonepnkofaaDoorNA
import Derived.Test.YtajmfonepnkofaaDoorNB
namespace Go.Proofs.YtajmfonepnkofaaDoor
open Go.RowKit Rg
set_option linter.unusedVariables false
set_option linter.unusedSimpArgs false

abbrev entR : ElR EntT := flatR encEnt
abbrev intR : ElR Int := flatR encI
theorem Own.ad {α : Type} {enc : α → List Value} {sz lo : Nat} {e : TypeId} {w : World} {A : Option Addr} {n c : Nat} {xs : List α} (h : Own enc sz e w lo (.slice A n c) xs) : A = none ∧ n = 0 ∧ c = 0 ∨ ∃ b off, A = some ⟨b, off, none⟩ := by
  rcases h with ⟨h1, _⟩ | ⟨g, cap, cur, h1, _⟩
  · injection h1 with e1 e2 e3
    exact .inl ⟨e1, e2, e3⟩
  · injection h1 with e1 e2 e3
    exact .inr ⟨g, 0, e1⟩
/-- A plain slice that reads as a list; its block is one of D. -/
structure RdD {α : Type} (enc : α → List Value) (sz : Nat) (w : World) (D : Nat → Prop) (A : Option Addr) (n c : Nat) (xs : List α) : Prop where
  len : n = xs.length
  cap : n ≤ c
  max : c ≤ maxLen
  row : xs ≠ [] → ∃ b off, A = some ⟨b, off, none⟩ ∧ D b ∧ ∀ (i : Nat) (x : α), xs[i]? = some x → ∀ (j : Nat) (u : Value), (enc x)[j]? = some u → w.cell? ⟨b, off + i * sz + j, none⟩ = some u
section
variable {α : Type} {enc : α → List Value} {sz : Nat} {w w' : World} {D D' : Nat → Prop} {A : Option Addr} {n c : Nat} {xs : List α}
theorem RdD.keep (h : RdD enc sz w D A n c xs) (hk : ∀ b, D b → w'.heap[b]? = w.heap[b]?) : RdD enc sz w' D A n c xs :=
  ⟨h.len, h.cap, h.max, fun hne => by
    obtain ⟨b, off, e, h1, h3⟩ := h.row hne
    exact ⟨b, off, e, h1, fun i x hx j u hu => (World.cell?_of_block (hk b h1)).trans (h3 i x hx j u hu)⟩⟩
theorem RdD.below {K : Nat} (h : RdD enc sz w D A n c xs) (hb : Below K w w') (hD : ∀ b, D b → b < K) : RdD enc sz w' D A n c xs := h.keep fun b h1 => hb.block b (hD b h1)
theorem RdD.mono (h : RdD enc sz w D A n c xs) (hD : ∀ b, D b → D' b) : RdD enc sz w D' A n c xs :=
  ⟨h.len, h.cap, h.max, fun hne => by
    obtain ⟨b, off, e, h1, h3⟩ := h.row hne
    exact ⟨b, off, e, hD b h1, h3⟩⟩
theorem RdD.addr (h : RdD enc sz w D A n c xs) {k : Nat} (hk : k < xs.length) : ∃ b off, A = some ⟨b, off, none⟩ ∧ D b := by
  obtain ⟨b, off, e, h1, _⟩ := h.row (by rintro rfl; simp at hk)
  exact ⟨b, off, e, h1⟩
theorem RdD.sl {hi : Nat} (h : RdD enc sz w D A n c xs) (hD : ∀ b, D b → b < hi) : Sl enc sz w 0 hi A xs := fun hne => by
  obtain ⟨b, off, e, h1, h3⟩ := h.row hne
  exact ⟨b, off, e, Nat.zero_le _, hD b h1, h3⟩
theorem RdD.rdn {hi : Nat} (hl : ∀ x, (enc x).length = sz) (h : RdD enc sz w D A n c xs) (hD : ∀ b, D b → b < hi) : RdN sz (flatR enc) w 0 hi A n c xs := (h.sl hD).rdn hl h.len h.cap h.max
theorem RdD.drop_ {b off : Nat} (h : RdD enc sz w D (some ⟨b, off, none⟩) n c xs) (k : Nat) (hk : k ≤ n) : RdD enc sz w D (some ⟨b, off + k * sz, none⟩) (n - k) (c - k) (xs.drop k) :=
  ⟨by have := h.len; simp; omega, by have := h.cap; omega, by have := h.max; omega, fun hne => by
    obtain ⟨b', off', e, h1, h3⟩ := h.row (by rintro rfl; simp at hne)
    injection e with e
    injection e with e1 e2
    subst e1; subst e2
    refine ⟨b, _, rfl, h1, fun i x hx j u hu => ?_⟩
    have := h3 (k + i) x (by rw [List.getElem?_drop] at hx; exact hx) j u hu
    rw [Nat.add_mul, ← Nat.add_assoc] at this
    exact this⟩
theorem RdN.rdD {lo hi : Nat} (h : RdN sz (flatR enc) w lo hi A n c xs) (hD : ∀ b, lo ≤ b → b < hi → D b) : RdD enc sz w D A n c xs :=
  ⟨h.len, h.cap, h.max, fun hne => by
    obtain ⟨b, off, e, h1, h2, h3⟩ := h.sl hne
    exact ⟨b, off, e, hD b h1 h2, h3⟩⟩
theorem Own.rdD {e : TypeId} {lo : Nat} (hl : ∀ x, (enc x).length = sz) (h : Own enc sz e w lo (.slice A n c) xs) (hD : ∀ b, lo ≤ b → b < w.heap.size → D b) : RdD enc sz w D A n c xs := (h.rdn hl).rdD hD
end
/-- A game: its three slices lie in blocks of D. -/
structure GmD (w : World) (D : Nat → Prop) (A : Option Addr) (n c : Nat) (B : Option Addr) (p d : Nat) (E : Option Addr) (q f : Nat) (g : GameT) : Prop where
  en : RdD encEnt 5 w D A n c g.1
  fl : RdD encI 1 w D B p d g.2.1
  la : RdD encI 1 w D E q f g.2.2
  ad : A = none ∧ n = 0 ∧ c = 0 ∨ ∃ b off, A = some ⟨b, off, none⟩
section
variable {w w' : World} {D D' : Nat → Prop} {A : Option Addr} {n c : Nat} {B : Option Addr} {p d : Nat} {E : Option Addr} {q f : Nat} {g : GameT}
theorem GmD.keep (h : GmD w D A n c B p d E q f g) (hk : ∀ b, D b → w'.heap[b]? = w.heap[b]?) : GmD w' D A n c B p d E q f g := ⟨h.en.keep hk, h.fl.keep hk, h.la.keep hk, h.ad⟩
theorem GmD.below {K : Nat} (h : GmD w D A n c B p d E q f g) (hb : Below K w w') (hD : ∀ b, D b → b < K) : GmD w' D A n c B p d E q f g := h.keep fun b h1 => hb.block b (hD b h1)
theorem GmD.mono (h : GmD w D A n c B p d E q f g) (hD : ∀ b, D b → D' b) : GmD w D' A n c B p d E q f g := ⟨h.en.mono hD, h.fl.mono hD, h.la.mono hD, h.ad⟩
end
theorem RdD.ent {w : World} {D : Nat → Prop} {b off n c k : Nat} {ts : List EntT} (h : RdD encEnt 5 w D (some ⟨b, off, none⟩) n c ts) (hk : k < ts.length) :
    w.cell? ⟨b, off + k * 5, none⟩ = some (.int .i64 ts[k].1) ∧ w.cell? ⟨b, off + k * 5 + 1, none⟩ = some (.int .i64 ts[k].2.1) ∧ w.cell? ⟨b, off + k * 5 + 2, none⟩ = some (.int .i64 ts[k].2.2.1) ∧ w.cell? ⟨b, off + k * 5 + 3, none⟩ = some (.int .i64 ts[k].2.2.2.1) ∧ w.cell? ⟨b, off + k * 5 + 4, none⟩ = some (.int .i64 ts[k].2.2.2.2) := by
  obtain ⟨b', off', e, h1, h3⟩ := h.row (by rintro rfl; simp at hk)
  injection e with e
  injection e with e1 e2
  subst e1; subst e2
  have h5 := h3 k ts[k] (List.getElem?_eq_getElem hk)
  exact ⟨h5 0 _ rfl, h5 1 _ rfl, h5 2 _ rfl, h5 3 _ rfl, h5 4 _ rfl⟩
theorem RdD.i64 {w : World} {D : Nat → Prop} {b off n c k : Nat} {ts : List Int} (h : RdD encI 1 w D (some ⟨b, off, none⟩) n c ts) (hk : k < ts.length) : w.cell? ⟨b, off + k, none⟩ = some (.int .i64 ts[k]) := by
  obtain ⟨b', off', e, h1, h3⟩ := h.row (by rintro rfl; simp at hk)
  injection e with e
  injection e with e1 e2
  subst e1; subst e2
  have h5 := h3 k ts[k] (List.getElem?_eq_getElem hk) 0 _ rfl
  simpa using h5
theorem RdN.ent {w : World} {lo hi b off n c k : Nat} {ts : List EntT} (h : RdN 5 entR w lo hi (some ⟨b, off, none⟩) n c ts) (hk : k < ts.length) :
    w.cell? ⟨b, off + k * 5, none⟩ = some (.int .i64 ts[k].1) ∧ w.cell? ⟨b, off + k * 5 + 1, none⟩ = some (.int .i64 ts[k].2.1) ∧ w.cell? ⟨b, off + k * 5 + 2, none⟩ = some (.int .i64 ts[k].2.2.1) ∧ w.cell? ⟨b, off + k * 5 + 3, none⟩ = some (.int .i64 ts[k].2.2.2.1) ∧ w.cell? ⟨b, off + k * 5 + 4, none⟩ = some (.int .i64 ts[k].2.2.2.2) := by
  obtain ⟨cs, _, h5, h6⟩ := h.at_ hk
  have h7 : cs = encEnt ts[k] := h6
  subst h7
  exact ⟨h5 0 _ rfl, h5 1 _ rfl, h5 2 _ rfl, h5 3 _ rfl, h5 4 _ rfl⟩
theorem RdN.int_ {w : World} {lo hi b off n c k : Nat} {ts : List Int} (h : RdN 1 intR w lo hi (some ⟨b, off, none⟩) n c ts) (hk : k < ts.length) : w.cell? ⟨b, off + k, none⟩ = some (.int .i64 ts[k]) := h.sl.i64 hk
/-- A box of three cells. -/
def Bx3 (w : World) (b : Nat) (v0 v1 v2 : Value) (t : TypeId) : Prop := w.heap[b]? = some (.cells #[v0, v1, v2] t (0, 0))
section
variable {w w' : World} {b : Nat} {v0 v1 v2 : Value} {t : TypeId}
theorem Bx3.made (w : World) (v0 v1 v2 : Value) (t : TypeId) : Bx3 (w.alloc (.cells #[v0, v1, v2] t)) w.heap.size v0 v1 v2 t := heap_alloc_new w _
theorem Bx3.lt (h : Bx3 w b v0 v1 v2 t) : b < w.heap.size := lt_of_heap h
theorem Bx3.below {K : Nat} (h : Bx3 w b v0 v1 v2 t) (hb : Below K w w') (hK : b < K) : Bx3 w' b v0 v1 v2 t := (hb.block b hK).trans h
theorem Bx3.keep (h : Bx3 w b v0 v1 v2 t) (hb : w'.heap[b]? = w.heap[b]?) : Bx3 w' b v0 v1 v2 t := hb.trans h
theorem Bx3.cells (h : Bx3 w b v0 v1 v2 t) : w.cell? ⟨b, 0, none⟩ = some v0 ∧ w.cell? ⟨b, 1, none⟩ = some v1 ∧ w.cell? ⟨b, 2, none⟩ = some v2 ∧ w.frozen? ⟨b, 0, none⟩ = false ∧ w.frozen? ⟨b, 1, none⟩ = false ∧ w.frozen? ⟨b, 2, none⟩ = false := by
  unfold Bx3 at h
  refine ⟨?_, ?_, ?_, ?_, ?_, ?_⟩ <;> first | (simp only [World.cell?, h]; rfl) | (simp [World.frozen?, h])
theorem Bx3.set0 (h : Bx3 w b v0 v1 v2 t) (u : Value) : Bx3 (w.setCell ⟨b, 0, none⟩ u) b u v1 v2 t := by
  unfold Bx3 at *; simp [World.setCell, Array.getElem?_modify, h]
theorem Bx3.set1 (h : Bx3 w b v0 v1 v2 t) (u : Value) : Bx3 (w.setCell ⟨b, 1, none⟩ u) b v0 u v2 t := by
  unfold Bx3 at *; simp [World.setCell, Array.getElem?_modify, h]
theorem Bx3.set2 (h : Bx3 w b v0 v1 v2 t) (u : Value) : Bx3 (w.setCell ⟨b, 2, none⟩ u) b v0 v1 u t := by
  unfold Bx3 at *; simp [World.setCell, Array.getElem?_modify, h]
end
/-- The place of a player's figure, or -1. -/
def atI (es : List EntT) (c : Int) : Int := match figI es c with | some k => (k : Int) | none => -1
theorem atI_some {es : List EntT} {c : Int} {k : Nat} (hk : k < es.length) (h : es[k].1 = c) (hn : ∀ (i : Nat) (hi : i < es.length), i < k → es[i].1 ≠ c) : atI es c = (k : Int) := by
  have : figI es c = some k := by
    unfold figI
    rw [List.findIdx?_eq_some_iff_getElem]
    exact ⟨hk, by simpa using h, fun j hj => by simpa using hn j (by omega) hj⟩
  unfold atI; rw [this]
theorem atI_none {es : List EntT} {c : Int} (hn : ∀ (i : Nat) (hi : i < es.length), es[i].1 ≠ c) : atI es c = -1 := by
  have : figI es c = none := by
    unfold figI
    rw [List.findIdx?_eq_none_iff]
    intro e he
    obtain ⟨i, hi, rfl⟩ := List.mem_iff_getElem.1 he
    simpa using hn i hi
  unfold atI; rw [this]
theorem okR_iff (t : ReqV) : okR t = true ↔ okA t := by
  obtain ⟨a, b, c, x, y⟩ := t
  rw [okR_eq]
  unfold okA rng
  simp only [inB, Bool.and_eq_true, decide_eq_true_eq]
  constructor
  · rintro ⟨h1, h2, h3⟩
    refine ⟨h1, h2, ?_⟩
    split at h3
    · simp at h3; omega
    · split at h3
      · simp at h3; omega
      · split at h3
        · simp at h3; omega
        · split at h3
          · simp at h3; omega
          · cases h3
  · rintro ⟨h1, h2, h3⟩
    refine ⟨h1, h2, ?_⟩
    split
    · simp; omega
    · split
      · simp; omega
      · split
        · simp; omega
        · split
          · simp; omega
          · exfalso; omega
end Go.Proofs.YtajmfonepnkofaaDoor
