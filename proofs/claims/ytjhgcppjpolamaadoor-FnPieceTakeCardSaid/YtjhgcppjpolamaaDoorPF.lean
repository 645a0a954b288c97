/-
  The plain law of pieces: a list is pieces as they are made just when it is the pieces of what it joins to.
-/
import Derived.Test.YtjhgcppjpolamaaDoorPE
namespace Go.Proofs.YtjhgcppjpolamaaDoor
open Go.RowKit Rg
set_option linter.unusedVariables false
set_option linter.unusedSimpArgs false

def catS : List ByteArray → ByteArray
  | [] => ⟨#[]⟩
  | x :: xs => x ++ catS xs
theorem ba_ext {a b : ByteArray} (h : a.data = b.data) : a = b := by cases a; cases b; simp at h; rw [h]
theorem append_empty (x : ByteArray) : x ++ (⟨#[]⟩ : ByteArray) = x := ba_ext (by simp)
theorem extract_left (x y : ByteArray) (h : x.size = 12) : (x ++ y).extract 0 12 = x := ByteArray.extract_append_eq_left h.symm
theorem extract_right (x y : ByteArray) (h : x.size = 12) : (x ++ y).extract 12 (x ++ y).size = y := ByteArray.extract_append_eq_right h.symm ByteArray.size_append
/-- Pieces, told along the list. -/
def fits : List ByteArray → Prop
  | [] => False
  | [x] => x.size ≤ 12
  | x :: y :: r => x.size = 12 ∧ fits (y :: r) ∧ (r = [] → y ≠ ⟨#[]⟩)
theorem size_zero {x : ByteArray} (h : x.size = 0) : x = ⟨#[]⟩ := ba_ext (Array.eq_empty_of_size_eq_zero h)
theorem fits_pos : ∀ (xs : List ByteArray) (y : ByteArray), fits (y :: xs) → (xs = [] → y ≠ ⟨#[]⟩) → 0 < (catS (y :: xs)).size
  | [], y, h, hne => by
    have := hne rfl
    simp only [catS, append_empty]
    rcases Nat.eq_zero_or_pos y.size with h0 | h0
    · exact absurd (size_zero h0) this
    · exact h0
  | z :: r, y, h, _ => by
    have h1 : y.size = 12 := h.1
    simp only [catS, ByteArray.size_append]
    omega
theorem pcs_cat : ∀ (xs : List ByteArray), fits xs → pcs (catS xs) = xs
  | [], h => h.elim
  | [x], h => by
    simp only [catS, append_empty]
    exact pcs_last (by have : x.size ≤ 12 := h; omega)
  | x :: y :: r, h => by
    obtain ⟨h1, h2, h3⟩ := h
    have hp := fits_pos r y h2 h3
    have hs : 12 < (x ++ catS (y :: r)).size := by rw [ByteArray.size_append]; omega
    show pcs (x ++ catS (y :: r)) = _
    rw [pcs_more hs, extract_left x _ h1, extract_right x _ h1, pcs_cat (y :: r) h2]
theorem fits_pcs (m : Nat) : ∀ s : ByteArray, s.size = m → fits (pcs s) ∧ (pcs s = [s] ∨ 12 < s.size) := by
  induction m using Nat.strongRecOn with
  | _ m ih =>
    intro s hm
    by_cases h : 12 < s.size
    · refine ⟨?_, .inr h⟩
      obtain ⟨h1, h2⟩ := ih (s.extract 12 s.size).size (by simp; omega) _ rfl
      have hx : (s.extract 0 12).size = 12 := by simp; omega
      have hz : (s.extract 12 s.size).size = s.size - 12 := by simp
      rw [pcs_more h]
      cases hp : pcs (s.extract 12 s.size) with
      | nil => rw [hp] at h1; exact h1.elim
      | cons y r =>
        rw [hp] at h1 h2
        refine ⟨hx, h1, fun hr he => ?_⟩
        subst hr
        rcases h2 with h2 | h2
        · injection h2 with h2
          rw [h2] at he
          have : (s.extract 12 s.size).size = 0 := by rw [he]; rfl
          omega
        · rw [pcs_more h2] at hp
          injection hp with _ hp
          have h9 := (ih ((s.extract 12 s.size).extract 12 (s.extract 12 s.size).size).size (by simp at h2 ⊢; omega) _ rfl).1
          rw [hp] at h9
          exact h9
    · rw [pcs_last h]
      exact ⟨by show s.size ≤ 12; omega, .inl rfl⟩

theorem fitAt_cons {x : ByteArray} {xs : List ByteArray} {i : Nat} : fitAt (x :: xs) (i + 1) ↔ fitAt xs i := by
  unfold fitAt
  constructor
  · rintro ⟨h, h1, h2⟩
    simp only [List.getElem_cons_succ, List.length_cons] at h h1 h2
    exact ⟨by omega, h1, fun h3 => h2 (by omega)⟩
  · rintro ⟨h, h1, h2⟩
    exact ⟨by simp; omega, by simpa using h1, fun h3 => by simpa using h2 (by simp at h3; omega)⟩
theorem fits_iff : ∀ xs : List ByteArray, fits xs ↔ (∀ i, i < xs.length → fitAt xs i) ∧ 1 ≤ xs.length ∧ (xs.length = 1 ∨ ∀ h : 0 < xs.length, xs[xs.length - 1] ≠ ⟨#[]⟩)
  | [] => by simp [fits]
  | [x] => by
    constructor
    · intro h
      refine ⟨fun i hi => ?_, by simp, .inl rfl⟩
      have : i = 0 := by simp at hi; omega
      subst this
      exact ⟨hi, h, fun h => by simp at h⟩
    · rintro ⟨h, _⟩
      obtain ⟨_, h1, _⟩ := h 0 (by simp)
      exact h1
  | x :: y :: r => by
    have ih := fits_iff (y :: r)
    constructor
    · rintro ⟨h1, h2, h3⟩
      obtain ⟨g1, g2, g3⟩ := ih.1 h2
      refine ⟨fun i hi => ?_, by simp, .inr fun _ => ?_⟩
      · cases i with
        | zero => exact ⟨hi, by simp; omega, fun _ => by simp; omega⟩
        | succ i => exact fitAt_cons.2 (g1 i (by simpa using hi))
      · have e : (x :: y :: r)[(x :: y :: r).length - 1] = (y :: r)[(y :: r).length - 1] := by simp [List.getElem_cons]
        rw [e]
        rcases g3 with g3 | g3
        · have hr : r = [] := by simpa using g3
          subst hr
          exact h3 rfl
        · exact g3 (by simp)
    · rintro ⟨h1, _, h3⟩
      obtain ⟨_, a1, a2⟩ := h1 0 (by simp)
      simp only [List.getElem_cons_zero] at a1 a2
      have a3 := a2 (by simp)
      have hl : (y :: r)[(y :: r).length - 1] ≠ ⟨#[]⟩ := by
        have e : (x :: y :: r)[(x :: y :: r).length - 1] = (y :: r)[(y :: r).length - 1] := by simp [List.getElem_cons]
        rcases h3 with h3 | h3
        · simp at h3
        · rw [← e]; exact h3 (by simp)
      refine ⟨by omega, ih.2 ⟨fun i hi => fitAt_cons.1 (h1 (i + 1) (by simpa using hi)), by simp, .inr fun _ => hl⟩, fun hr => ?_⟩
      subst hr
      exact hl
theorem cat_len : ∀ xs : List ByteArray, fits xs → 12 * (xs.length - 1) + (if xs.length = 1 then 0 else 1) ≤ (catS xs).size ∧ (catS xs).size ≤ 12 * xs.length
  | [], h => h.elim
  | [x], h => by have : x.size ≤ 12 := h; simp [catS, append_empty]; omega
  | x :: y :: r, h => by
    obtain ⟨h1, h2, h3⟩ := h
    have ih := cat_len (y :: r) h2
    have hp := fits_pos r y h2 h3
    show _ ≤ (x ++ catS (y :: r)).size ∧ (x ++ catS (y :: r)).size ≤ _
    rw [ByteArray.size_append]
    simp only [List.length_cons] at ih ⊢
    split at ih <;> split <;> omega
/-- The law. -/
theorem okP_iff (xs : List ByteArray) : okP xs ↔ 0 < xs.length ∧ pieces (catS xs) = xs := by
  have hf := fits_iff xs
  unfold okP
  constructor
  · rintro ⟨h1, ⟨h2, h3⟩, h4⟩
    have h5 := hf.2 ⟨h1, h2, h4⟩
    have h6 := (cat_len xs h5).2
    refine ⟨h2, ?_⟩
    rw [pieces, if_neg (by omega)]
    exact pcs_cat xs h5
  · rintro ⟨h0, h1⟩
    unfold pieces at h1
    split at h1
    · subst h1; simp at h0
    · rename_i h2
      have h3 := (fits_pcs _ (catS xs) rfl).1
      rw [h1] at h3
      obtain ⟨g1, g2, g3⟩ := hf.1 h3
      have h6 := (cat_len xs h3).1
      refine ⟨g1, ⟨g2, ?_⟩, g3⟩
      split at h6 <;> omega
end Go.Proofs.YtjhgcppjpolamaaDoor
