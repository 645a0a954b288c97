/-
  A law's arguments, opened: slices whatever the element's type; plain structs.
-/
import Derived.Test.YtajmfonepnkofaaDoorRows
import Derived.Test.YtajmfonepnkofaaDoorBase
import Derived.Deep.Slices
import Derived.Deep.Fields
import Derived.ChangeSame
import Derived.ProofKit
import Derived.OpenShut
import Derived.ShutString
import Derived.ChangeOld
namespace Go.Proofs.YtajmfonepnkofaaDoor
open Go Go.RowKit Go.WideShapes Go.ChangeShapes Go.Deep

section
variable {H : Type} {enc : TypeId × Value → H} {P : Program} {w : World} {base : Nat} {spare : Nat → Bool} {held : Bool}
/-- A slice, its elements read by 'helem'. -/
theorem trod_sl {α : Type} {encA : α → List Value} {sz : Nat} {Good : α → Prop} {t e : TypeId} {fuel : Nat} {v : Value} {x : DataW H × List MemPlace} (ht : P.underlying t = some (.slice e)) (hC : P.cellsOf e = sz) (hsz : 0 < sz) (hl : ∀ a, (encA a).length = sz)
    (h : DataW.trod enc P w base spare held fuel t [v] = some x)
    (helem : ∀ (n : Nat) (cs : List Value) (y : DataW H × List MemPlace), DataW.trod enc P w base spare held n e cs = some y → ∃ a : α, cs = encA a ∧ Good a) :
    ∃ A len cap, ∃ xs : List α, v = .slice A len cap ∧ len = xs.length ∧ len ≤ cap ∧ cap ≤ maxLen ∧ Sl encA sz w 0 w.heap.size A xs ∧ ∀ x ∈ xs, Good x := by
  rcases open_slice ht h with ⟨hcs, _⟩ | ⟨a, len, cap, m, n, D, Pl, hcs, hb, hl1, hm, hmm, hx, hi⟩
  · injection hcs with hv
    exact ⟨none, 0, 0, [], hv, rfl, Nat.le_refl _, by simp [maxLen], Sl.nil_, by simp⟩
  · injection hcs with hv
    have hlm : len ≤ m := by rw [hmm]; split <;> omega
    have hall : ∀ i, i < len → ∃ y : α, (∀ j u, (encA y)[j]? = some u → w.cell? ((a.add (i * sz)).add j) = some u) ∧ Good y := by
      intro i hil
      obtain ⟨cs', hc, ht'⟩ := hi i (by omega)
      rw [hC] at hc
      obtain ⟨_, hcl, hat⟩ := World.cells?_some hc
      obtain ⟨y, hy, hg⟩ := helem n cs' _ ht'
      refine ⟨y, fun j u hu => ?_, hg⟩
      have hj : j < sz := by rw [← hl y]; exact (List.getElem?_eq_some_iff.1 hu).1
      rw [hat j hj, hy]
      exact hu
    have hlist : ∀ k, k ≤ len → ∃ xs : List α, xs.length = k ∧ (∀ i y, xs[i]? = some y → ∀ j u, (encA y)[j]? = some u → w.cell? ((a.add (i * sz)).add j) = some u) ∧ ∀ y ∈ xs, Good y := by
      intro k
      induction k with
      | zero => intro _; exact ⟨[], rfl, by simp, by simp⟩
      | succ k ih =>
        intro hk
        obtain ⟨xs, hxl, hx1, hx2⟩ := ih (by omega)
        obtain ⟨y, hy1, hy2⟩ := hall k (by omega)
        refine ⟨xs ++ [y], by simp [hxl], fun i z hz => ?_, fun z hz => ?_⟩
        · by_cases hik : i < k
          · rw [List.getElem?_append_left (by omega)] at hz
            exact hx1 i z hz
          · rw [List.getElem?_append_right (by omega), hxl] at hz
            have h0 : i - k < [y].length := (List.getElem?_eq_some_iff.1 hz).1
            have e1 : i = k := by simp at h0; omega
            subst e1
            simp at hz
            subst hz
            exact hy1
        · rcases List.mem_append.1 hz with hz | hz
          · exact hx2 z hz
          · simp at hz; subst hz; exact hy2
    obtain ⟨xs, hxl, hx1, hx2⟩ := hlist len (Nat.le_refl _)
    refine ⟨some a, len, cap, xs, hv, hxl.symm, hl1, hm, fun hne => ?_, hx2⟩
    obtain ⟨y, ys, hxy⟩ := List.exists_cons_of_ne_nil hne
    have hpos : 0 < sz := hsz
    have h0 : (encA y)[0]? = some ((encA y)[0]'(by rw [hl]; exact hpos)) := List.getElem?_eq_getElem _
    have hc0 := hx1 0 y (by rw [hxy]; rfl) 0 _ h0
    obtain ⟨b, off, spot⟩ := a
    have hspot : spot = none := by
      have := World.cell?_spot hc0
      unfold Addr.add at this
      split at this <;> split at this <;> simp_all
    subst hspot
    have hadd : ∀ i j : Nat, ((⟨b, off, none⟩ : Addr).add i).add j = ⟨b, off + i + j, none⟩ := by
      intro i j
      unfold Addr.add
      by_cases hi0 : i = 0 <;> by_cases hj0 : j = 0 <;> simp [hi0, hj0]
    refine ⟨b, off, rfl, Nat.zero_le _, ?_, fun i x hx j u hu => ?_⟩
    · have := hc0
      rw [hadd] at this
      rcases Nat.lt_or_ge b w.heap.size with h1 | h1
      · exact h1
      · simp [World.cell?, Array.getElem?_eq_none h1] at this
    · have := hx1 i x hx j u hu
      rw [hadd] at this
      exact this

/-- A struct of three integers. -/
theorem trod_int3 {t ti : TypeId} {fs : Array Field} {fuel : Nat} {cs : List Value} {x : DataW H × List MemPlace} (ht : P.underlying t = some (.struct fs)) (hti : P.underlying ti = some (.int .i64)) (hfs : fs.size = 3) (hty : (fs.all fun f => f.type == ti) = true) (hone : oneCellFields P fs = true) (hC : P.cellsOf t = 3)
    (h : DataW.trod enc P w base spare held fuel t cs = some x) : ∃ a : Int × Int × Int, cs = [.int .i64 a.1, .int .i64 a.2.1, .int .i64 a.2.2] ∧ True := by
  obtain ⟨ys, n, _, _, hlen, _, hf⟩ := DataW.trod_struct ht h
  rw [hC] at hlen
  have key : ∀ (i : Nat) (hi : i < 3), ∃ k : Int, cs[i]'(by omega) = .int .i64 k := by
    intro i hi
    have hi' : i < fs.size := by omega
    have hfi : fs[i]? = some fs[i] := Array.getElem?_eq_getElem hi'
    obtain ⟨ho, hk⟩ := hone_of hone i fs[i] hfi
    have h1 := hf i fs[i] hfi
    have hty' : fs[i].type = ti := by
      have := Array.all_eq_true_iff_forall_mem.1 hty fs[i] (Array.getElem_mem hi')
      simpa using this
    rw [ho, hk, hty', List.drop_eq_getElem_cons (by omega)] at h1
    cases hy : ys[i]? with
    | none => have : i < ys.length := by omega
              rw [List.getElem?_eq_getElem this] at hy; cases hy
    | some y =>
      rw [hy] at h1
      obtain ⟨k, hk1, _⟩ := DataW.trod_int hti h1
      rw [List.take_succ_cons, List.take_zero] at hk1
      injection hk1 with hk1
      exact ⟨k, hk1⟩
  clear hf h
  match cs, hlen, key with
  | [c0, c1, c2], _, key =>
    obtain ⟨a, ha⟩ := key 0 (by omega)
    obtain ⟨b, hb⟩ := key 1 (by omega)
    obtain ⟨c, hc⟩ := key 2 (by omega)
    refine ⟨(a, b, c), ?_, trivial⟩
    have ha' : c0 = .int .i64 a := ha
    have hb' : c1 = .int .i64 b := hb
    have hc' : c2 = .int .i64 c := hc
    rw [ha', hb', hc']
end
end Go.Proofs.YtajmfonepnkofaaDoor
