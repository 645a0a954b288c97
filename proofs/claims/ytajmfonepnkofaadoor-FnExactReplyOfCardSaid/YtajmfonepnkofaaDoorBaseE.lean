/-
  'append([]T{}, x...)': what it leaves, wherever the empty slice lies.
  Conditions: the sizes of what grows are bounded.
-/
import Derived.Test.YtajmfonepnkofaaDoorBase
namespace Go.Proofs.YtajmfonepnkofaaDoor
open Go Go.RowKit
set_option linter.unusedVariables false
set_option linter.unusedSimpArgs false

/-- An empty slice's block. -/
def Emp (w : World) (b : Nat) (e : TypeId) : Prop := w.heap[b]? = some (.cells #[] e (0, 0))
section
variable {w w' : World} {b : Nat} {e : TypeId}
theorem Emp.new (w : World) (e : TypeId) : Emp (w.alloc (.cells #[] e)) w.heap.size e := heap_alloc_new w _
theorem Emp.lt (h : Emp w b e) : b < w.heap.size := lt_of_heap h
theorem Emp.below {K : Nat} (h : Emp w b e) (hb : Below K w w') (hK : b < K) : Emp w' b e := (hb.block b hK).trans h
theorem Emp.alloc (h : Emp w b e) (o : Obj) : Emp (w.alloc o) b e := (Below.heap_alloc w o b h.lt).trans h
theorem Emp.drew (h : Emp w b e) : Emp w.drew b e := h
theorem Emp.app (h : Emp w b e) (hb : Below w.heap.size w w') : Emp w' b e := (hb.block b h.lt).trans h
end
section
variable {P : Program}
theorem run_app0 {α : Type} {enc : α → List Value} {sz : Nat} (hl : ∀ x, (enc x).length = sz) (h1c : ∀ x, ∀ u ∈ enc x, u.oneCell' = true) (t ty e : TypeId) (i : TypeInfo) (z : Value) (bytes : Nat) (ht : P.underlying t = some (.slice e)) (hi : P.info? e = some i) (hz : i.zero = some z)
    (hsize : i.size = sz) (hby : i.bytes = bytes) (hzs : z.cells.size = sz) {w : World} {lo b : Nat} (hE : Emp w b e) (hlo : lo ≤ b)
    (a : Addr) (ys : List α) (c : Nat) (hnews : ∀ j u, (ys.flatMap enc)[j]? = some u → w.cell? (a.add j) = some u)
    (hy : ys ≠ []) (h63 : ys.length ≤ maxLen) (hbytes : ys.length * bytes ≤ 140737488355328) :
    ∃ g cp w', (Builtin.append_ #[t, t] ty #[.slice (some ⟨b, 0, none⟩) 0 0, .slice (some a) ys.length c]).run P w = .ok (.slice (some ⟨g, 0, none⟩) ys.length cp) w' ∧ Own enc sz e w' lo (.slice (some ⟨g, 0, none⟩) ys.length cp) ys ∧ Below w.heap.size w w' := by
  subst hsize
  subst hby
  have hbl := hE.lt
  have hyl := flatMap_len hl ys
  have hpos : 0 < ys.length := by
    rcases Nat.eq_zero_or_pos ys.length with h | h
    · exact absurd (List.eq_nil_of_length_eq_zero h) hy
    · exact h
  have hr := run_append_grow (P := P) w t ty e i z ht hi hz ⟨b, 0, none⟩ 0 0 [] (by simp) (fun j u h => by simp at h) a ys.length c (ys.flatMap enc) hyl hnews (by omega) (by simp only [maxLen] at h63; omega) (growslice_fits (by omega) (by simpa using hbytes))
  have hge := grownCap_ge w ys.length 0 e
  have hcm : grownCap w ys.length 0 e ≤ maxLen := grownCap_le_maxLen w ys.length 0 e h63
  simp only [Nat.zero_add] at hr
  refine ⟨_, _, _, hr, .inr ⟨w.heap.size, grownCap w ys.length 0 e, _, rfl, by omega, heap_alloc_new w.drew _, hge, hcm, ?_, ?_⟩, ?_⟩
  · apply Nat.le_of_eq
    simp only [Array.size_append, List.size_toArray, size_zeroCells, hzs, hyl, List.length_nil, Nat.zero_add, ← Nat.add_mul]
    congr 1
    omega
  · simp only [Array.toList_append, List.append_assoc]
    rw [← hyl]
    exact List.take_left
  · exact (Below.refl w.heap.size w).drew.alloc (Nat.le_refl _) _

theorem wp_app0 {α : Type} {enc : α → List Value} {sz : Nat} (hl : ∀ x, (enc x).length = sz) (hsz : 0 < sz) (h1c : ∀ x, ∀ u ∈ enc x, u.oneCell' = true)
    {o : Oper} {a : Act} {w : World} {K : Act → World → Prop} {Q : Exit → Act → World → Prop} (s x : Operand) (t : TypeId)
    (ho : o.op = .call { callee := .builtin .append, args := #[s, x], argTypes := #[t, t] })
    (e : TypeId) (z : Value) (bytes : Nat) (ht : P.underlying t = some (.slice e)) (hi : (P.info? e).map (fun i => (i.zero, i.size, i.bytes)) = some (some z, sz, bytes)) (hzs : z.cells.size = sz)
    (lo b : Nat) (hs : a.eval s = .slice (some ⟨b, 0, none⟩) 0 0) (hE : Emp w b e) (hlo : lo ≤ b)
    (lo' hi' : Nat) (A : Option Addr) (ys : List α) (m c : Nat) (hx : a.eval x = .slice A m c) (hm : m = ys.length) (hsl : Sl enc sz w lo' hi' A ys)
    (hbound : ys.length * bytes ≤ 140737488355328 ∧ ys.length ≤ maxLen)
    (h : ∀ g cp w', Own enc sz e w' lo (.slice (some ⟨g, 0, none⟩) m cp) ys → Below w.heap.size w w' → K (a.put o.dst (.slice (some ⟨g, 0, none⟩) m cp)) w') : o.wp P a w K Q := by
  subst hm
  obtain ⟨i, hi, hz, hsize, hby⟩ := info_parts hi
  by_cases hy : ys = []
  · subst hy
    have hrun : (Builtin.append_ #[t, t] o.type #[.slice (some ⟨b, 0, none⟩) 0 0, .slice A 0 c]).run P w = .ok (.slice (some ⟨b, 0, none⟩) 0 0) w := by
      cases A <;> simp [Builtin.append_, run_underlying ht, sizeOf, typeInfo, hi, Builtin.lenOf, Builtin.firstCells, loadCells, loadCellsFrom, storeCells]
    unfold Oper.wp execOp
    simp only [ho, resolve, invoke, builtin, Sem.run_bind, Sem.run_pure, Result.andThen_ok, List.map_toArray, List.map_cons, List.map_nil, hs, hx, List.length_nil, hrun]
    have hE' : w.heap[b]? = some (.cells #[] e (0, 0)) := hE
    exact h b 0 w (.inr ⟨b, 0, #[], rfl, hlo, hE', Nat.le_refl _, by simp [maxLen], by simp, by simp⟩) (Below.refl _ _)
  · obtain ⟨b', off, rfl, _, _, hc⟩ := hsl hy
    have hnews : ∀ j u, (ys.flatMap enc)[j]? = some u → w.cell? ((⟨b', off, none⟩ : Addr).add j) = some u := by
      intro j u hu
      have hj : j < ys.length * sz := by rw [← flatMap_len hl ys]; exact (List.getElem?_eq_some_iff.1 hu).1
      have hk : j / sz < ys.length := Nat.div_lt_of_lt_mul (by rw [Nat.mul_comm]; exact hj)
      have hr : j % sz < sz := Nat.mod_lt _ hsz
      have hdm : j / sz * sz + j % sz = j := by rw [Nat.mul_comm]; exact Nat.div_add_mod j sz
      have hu' : (enc ys[j / sz])[j % sz]? = some ((enc ys[j / sz])[j % sz]'(by rw [hl]; exact hr)) := List.getElem?_eq_getElem _
      have h5 := flatMap_get hl ys (j / sz) ys[j / sz] (List.getElem?_eq_getElem hk) (j % sz) _ hu'
      rw [hdm, hu] at h5
      injection h5 with h5
      have h6 := hc (j / sz) ys[j / sz] (List.getElem?_eq_getElem hk) (j % sz) _ hu'
      rw [Nat.add_assoc, hdm, ← h5] at h6
      simpa [Addr.add] using (by by_cases hj0 : j = 0 <;> simp [hj0] at h6 ⊢ <;> exact h6)
    obtain ⟨g, cp, w', hrun, h2, hB⟩ := run_app0 hl h1c t o.type e i z bytes ht hi hz hsize hby hzs hE hlo ⟨b', off, none⟩ ys c hnews hy hbound.2 hbound.1
    unfold Oper.wp execOp
    simp only [ho, resolve, invoke, builtin, Sem.run_bind, Sem.run_pure, Result.andThen_ok, List.map_toArray, List.map_cons, List.map_nil, hs, hx, hrun]
    exact h g cp w' h2 hB

theorem wpList_app0 {α : Type} {enc : α → List Value} {sz : Nat} (hl : ∀ x, (enc x).length = sz) (hsz : 0 < sz) (h1c : ∀ x, ∀ u ∈ enc x, u.oneCell' = true)
    {ops : Array Oper} {rest : List Oper} {o : Oper} {a : Act} {w : World} {Q : Exit → Act → World → Prop} (hgd : o.guard = none) (s x : Operand) (t : TypeId)
    (ho : o.op = .call { callee := .builtin .append, args := #[s, x], argTypes := #[t, t] })
    (e : TypeId) (z : Value) (bytes : Nat) (ht : P.underlying t = some (.slice e)) (hi : (P.info? e).map (fun i => (i.zero, i.size, i.bytes)) = some (some z, sz, bytes)) (hzs : z.cells.size = sz)
    (lo b : Nat) (hs : a.eval s = .slice (some ⟨b, 0, none⟩) 0 0) (hE : Emp w b e) (hlo : lo ≤ b)
    (lo' hi' : Nat) (A : Option Addr) (ys : List α) (m c : Nat) (hx : a.eval x = .slice A m c) (hm : m = ys.length) (hsl : Sl enc sz w lo' hi' A ys)
    (hbound : ys.length * bytes ≤ 140737488355328 ∧ ys.length ≤ maxLen)
    (h : ∀ g cp w', Own enc sz e w' lo (.slice (some ⟨g, 0, none⟩) m cp) ys → Below w.heap.size w w' → wpList P ops Q rest (a.put o.dst (.slice (some ⟨g, 0, none⟩) m cp)) w') : wpList P ops Q (o :: rest) a w :=
  wpList_plain hgd fun _ hK => wp_app0 hl hsz h1c s x t ho e z bytes ht hi hzs lo b hs hE hlo lo' hi' A ys m c hx hm hsl hbound fun g cp w' h2 h3 => hK _ _ (h g cp w' h2 h3)
end
end Go.Proofs.YtajmfonepnkofaaDoor
