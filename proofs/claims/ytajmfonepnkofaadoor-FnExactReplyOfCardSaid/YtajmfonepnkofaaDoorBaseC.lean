/-
  'copy', 'append' with room, 'append' of a make, 'clear': onto slices of the call's own, for elements of any size.
  Conditions: the sizes of what grows are bounded.
-/
import Derived.Test.YtajmfonepnkofaaDoorBaseE
import Derived.Test.YtajmfonepnkofaaDoorGA
import Derived.Laws.CopyRow
import Derived.Lib.AppendZerosOnto
namespace Go.Proofs.YtajmfonepnkofaaDoor
open Go Go.RowKit
set_option linter.unusedVariables false
set_option linter.unusedSimpArgs false

section
variable {P : Program} {z0 : List Value} {α : Type} {enc : α → List Value} {sz : Nat} {e : TypeId} {w : World} {lo : Nat}
theorem Sl.news (hl : ∀ x, (enc x).length = sz) (hsz : 0 < sz) {lo' hi' b' off : Nat} {ys : List α} (hsl : Sl enc sz w lo' hi' (some ⟨b', off, none⟩) ys) :
    ∀ j u, (ys.flatMap enc)[j]? = some u → w.cell? ((⟨b', off, none⟩ : Addr).add j) = some u := by
  intro j u hu
  have hy : ys ≠ [] := by rintro rfl; simp at hu
  obtain ⟨b2, off2, he, _, _, hc⟩ := hsl hy
  injection he with he
  injection he with e1 e2
  subst e1; subst e2
  have hj : j < ys.length * sz := by rw [← flatMap_len hl ys]; exact (List.getElem?_eq_some_iff.1 hu).1
  have hk : j / sz < ys.length := Nat.div_lt_of_lt_mul (by rw [Nat.mul_comm]; exact hj)
  have hr : j % sz < sz := Nat.mod_lt _ hsz
  have hdm : j / sz * sz + j % sz = j := by rw [Nat.mul_comm]; exact Nat.div_add_mod j sz
  have hu' : (enc ys[j / sz])[j % sz]? = some ((enc ys[j / sz])[j % sz]'(by rw [hl]; exact hr)) := List.getElem?_eq_getElem _
  have h5 := flatMap_get hl ys (j / sz) ys[j / sz] (List.getElem?_eq_getElem hk) (j % sz) _ hu'
  rw [hdm, hu] at h5
  injection h5 with h5
  have h6 := hc (j / sz) ys[j / sz] (List.getElem?_eq_getElem hk) (j % sz) _ hu'
  rw [Nat.add_assoc, hdm, ← h5] at h6
  simpa [Addr.add] using (by by_cases hj0 : j = 0 <;> simp [hj0] at h6 ⊢ <;> exact h6)
theorem flatMap_one (h1c : ∀ x, ∀ u ∈ enc x, u.oneCell' = true) (ys : List α) : ∀ u ∈ ys.flatMap enc, u.oneCell' = true := fun u hu => by
  obtain ⟨x, _, hx⟩ := List.mem_flatMap.1 hu
  exact h1c x u hx
theorem Only.setRow (B g : Nat) (w : World) (cs : Array Value) : Only B (some g) w (w.setRow g cs) :=
  ⟨rfl, rfl, rfl, by simp [World.setRow], fun k hk hne => setRow_other w g k cs (fun e => hne (by rw [e]))⟩
/-- Elements from i on, overwritten. -/
theorem Own.splice (hl : ∀ x, (enc x).length = sz) {g n c : Nat} {xs ys : List α} {cur : Array Value} (h : Own enc sz e w lo (.slice (some ⟨g, 0, none⟩) n c) xs) (hg : w.heap[g]? = some (.cells cur e (0, 0))) {i : Nat} (hi : i + ys.length ≤ n) :
    Own enc sz e (w.setRow g (cur.toList.take (i * sz) ++ ys.flatMap enc ++ cur.toList.drop (i * sz + (ys.flatMap enc).length)).toArray) lo (.slice (some ⟨g, 0, none⟩) n c) (xs.take i ++ ys ++ xs.drop (i + ys.length)) := by
  obtain ⟨rfl, hlo, cur', hh, h1, h2, h3, h4⟩ := h.row
  rw [hg] at hh
  injection hh with hh
  injection hh with hh
  subst hh
  have hyl := flatMap_len hl ys
  have hz : (xs.take i ++ ys ++ xs.drop (i + ys.length)).length = xs.length := by simp; omega
  have hb2 : xs.length * sz ≤ c * sz := Nat.mul_le_mul_right sz h1
  have hb1 : i * sz + ys.length * sz ≤ xs.length * sz := by rw [← Nat.add_mul]; exact Nat.mul_le_mul_right sz hi
  have := Own.of_row (enc := enc) (sz := sz) (e := e) (xs := xs.take i ++ ys ++ xs.drop (i + ys.length)) (c := c) hlo (setRow_heap w g cur (cur.toList.take (i * sz) ++ ys.flatMap enc ++ cur.toList.drop (i * sz + (ys.flatMap enc).length)).toArray e _ hg) (by omega) h2 (by
      simp only [List.size_toArray, List.length_append, List.length_take, List.length_drop, Array.length_toList, hyl]; omega) (by
      rw [hz]
      simp only []
      rw [hyl]
      have := splice_take cur.toList (ys.flatMap enc) (i * sz) (ys.length * sz) (xs.length * sz) hb1 hyl (by simp only [Array.length_toList]; omega)
      rw [this, h4]
      have e1 : (xs.flatMap enc).take (i * sz) = (xs.take i).flatMap enc := by
        have : xs.flatMap enc = (xs.take i).flatMap enc ++ (xs.drop i).flatMap enc := by rw [← List.flatMap_append, List.take_append_drop]
        rw [this, List.take_append, flatMap_len hl, List.length_take, Nat.min_eq_left (by omega), Nat.sub_self, List.take_zero, List.append_nil, List.take_of_length_le (by rw [flatMap_len hl, List.length_take, Nat.min_eq_left (by omega)]; omega)]
      have e2 : (xs.flatMap enc).drop (i * sz + ys.length * sz) = (xs.drop (i + ys.length)).flatMap enc := by
        have : xs.flatMap enc = (xs.take (i + ys.length)).flatMap enc ++ (xs.drop (i + ys.length)).flatMap enc := by rw [← List.flatMap_append, List.take_append_drop]
        rw [this, ← Nat.add_mul, List.drop_append, flatMap_len hl, List.length_take, Nat.min_eq_left (by omega), Nat.sub_self, List.drop_zero, List.drop_of_length_le (by rw [flatMap_len hl, List.length_take, Nat.min_eq_left (by omega)]; omega), List.nil_append]
      rw [e1, e2, List.flatMap_append, List.flatMap_append])
  rwa [hz] at this
theorem run_copyN (dT sT ty elem : TypeId) (g o dLen dCap : Nat) (a : Addr) (sLen sCap : Nat) (cur : Array Value) (t : TypeId) (cs : List Value) (k : Nat)
    (hu : P.underlying dT = some (.slice elem)) (i : TypeInfo) (hi : P.info? elem = some i) (hsize : i.size = sz)
    (hg : w.heap[g]? = some (.cells cur t (0, 0))) (hk : k = Nat.min sLen dLen) (hn : cs.length = k * sz)
    (hsrc : ∀ j v, cs[j]? = some v → w.cell? (a.add j) = some v) (hfit : o + cs.length ≤ cur.size) (h1 : ∀ v ∈ cs, v.oneCell' = true) :
    (Builtin.copy_ #[dT, sT] ty #[.slice (some ⟨g, o, none⟩) dLen dCap, .slice (some a) sLen sCap]).run P w =
      .ok (goInt k) (w.setRow g (cur.toList.take o ++ cs ++ cur.toList.drop (o + cs.length)).toArray) := by
  have hf := run_firstCells_some (P := P) w i.size k a sLen sCap cs (by rw [hsize]; exact hn) hsrc
  have hst := run_storeCells_at P g o t cs 0 cur w hg (by simpa using hfit) h1
  simp [Builtin.copy_, run_underlying hu, Builtin.lenOf, sizeOf, typeInfo, hi, ← hk, hf, hst]
/-- 'copy(d[i:], s)' into a slice of the call's own, where there is room for all of s. -/
theorem wp_copyO (hl : ∀ x, (enc x).length = sz) (hsz : 0 < sz) (h1c : ∀ x, ∀ u ∈ enc x, u.oneCell' = true)
    {o : Oper} {a : Act} {K : Act → World → Prop} {Q : Exit → Act → World → Prop} (d s : Operand) (dT : TypeId) (ho : o.op = .call { callee := .builtin .copy, args := #[d, s], argTypes := #[dT, dT] })
    (z : Value) (bytes : Nat) (hu : P.underlying dT = some (.slice e)) (hi : (P.info? e).map (fun i => (i.zero, i.size, i.bytes)) = some (some z, sz, bytes))
    (g n c : Nat) (xs : List α) (hown : Own enc sz e w lo (.slice (some ⟨g, 0, none⟩) n c) xs) (i dl dc : Nat) (hd : a.eval d = .slice (some ⟨g, i * sz, none⟩) dl dc)
    (lo' hi' : Nat) (A : Option Addr) (ys : List α) (m sc : Nat) (hs : a.eval s = .slice A m sc) (hm : m = ys.length) (hsl : Sl enc sz w lo' hi' A ys) (hfit : i + ys.length ≤ n ∧ ys.length ≤ dl)
    (h : ∀ w', Own enc sz e w' lo (.slice (some ⟨g, 0, none⟩) n c) (xs.take i ++ ys ++ xs.drop (i + ys.length)) → Only w.heap.size (some g) w w' → w'.heap.size = w.heap.size → K (a.put o.dst (goInt ys.length)) w') : o.wp P a w K Q := by
  subst hm
  obtain ⟨ti, hti, hz, hsize, hby⟩ := info_parts hi
  by_cases hy : ys = []
  · subst hy
    have hrun : (Builtin.copy_ #[dT, dT] o.type #[.slice (some ⟨g, i * sz, none⟩) dl dc, .slice A 0 sc]).run P w = .ok (goInt 0) w := by
      cases A <;> simp [Builtin.copy_, run_underlying hu, Builtin.lenOf, Builtin.firstCells, sizeOf, typeInfo, hti, storeCells, loadCells, loadCellsFrom]
    unfold Oper.wp execOp
    simp only [ho, resolve, invoke, builtin, Sem.run_bind, Sem.run_pure, Result.andThen_ok, List.map_toArray, List.map_cons, List.map_nil, hd, hs, List.length_nil, hrun]
    exact h w (by simpa using hown) (Only.refl _ _ _) rfl
  · obtain ⟨b', off, rfl, _, _, _⟩ := hsl hy
    obtain ⟨hnx, hlo, cur, hh, h1, h2, h3, h4⟩ := hown.row
    have hyl := flatMap_len hl ys
    have hc : i * sz + (ys.flatMap enc).length ≤ cur.size := by
      rw [hyl, ← Nat.add_mul]
      exact Nat.le_trans (Nat.mul_le_mul_right sz (by omega : i + ys.length ≤ c)) h3
    have hrun := run_copyN (P := P) (w := w) (sz := sz) dT dT o.type e g (i * sz) dl dc ⟨b', off, none⟩ ys.length sc cur e (ys.flatMap enc) ys.length hu ti hti hsize hh (by simp only [Nat.min_def]; split <;> omega) hyl (Sl.news hl hsz hsl) hc (flatMap_one h1c ys)
    unfold Oper.wp execOp
    simp only [ho, resolve, invoke, builtin, Sem.run_bind, Sem.run_pure, Result.andThen_ok, List.map_toArray, List.map_cons, List.map_nil, hd, hs, hrun]
    exact h _ (hown.splice hl hh hfit.1) (Only.setRow _ g w _) (by simp [World.setRow])
/-- 'append(s, x...)' where s has room: in place. -/
theorem wp_appR (hl : ∀ x, (enc x).length = sz) (hsz : 0 < sz) (h1c : ∀ x, ∀ u ∈ enc x, u.oneCell' = true)
    {o : Oper} {a : Act} {K : Act → World → Prop} {Q : Exit → Act → World → Prop} (s x : Operand) (t : TypeId)
    (ho : o.op = .call { callee := .builtin .append, args := #[s, x], argTypes := #[t, t] })
    (z : Value) (bytes : Nat) (ht : P.underlying t = some (.slice e)) (hi : (P.info? e).map (fun i => (i.zero, i.size, i.bytes)) = some (some z, sz, bytes))
    (g k c : Nat) (xs : List α) (hs : a.eval s = .slice (some ⟨g, 0, none⟩) k c) (hown : Own enc sz e w lo (.slice (some ⟨g, 0, none⟩) k c) xs)
    (lo' hi' : Nat) (A : Option Addr) (ys : List α) (m mc : Nat) (hx : a.eval x = .slice A m mc) (hm : m = ys.length) (hsl : Sl enc sz w lo' hi' A ys) (hroom : k + m ≤ c)
    (h : ∀ w', Own enc sz e w' lo (.slice (some ⟨g, 0, none⟩) (k + m) c) (xs ++ ys) → Only w.heap.size (some g) w w' → w'.heap.size = w.heap.size → K (a.put o.dst (.slice (some ⟨g, 0, none⟩) (k + m) c)) w') : o.wp P a w K Q := by
  subst hm
  obtain ⟨i, hi, hz, hsize, hby⟩ := info_parts hi
  obtain ⟨rfl, hlo, cur, hh, h1, h2, h3, h4⟩ := hown.row
  by_cases hy : ys = []
  · subst hy
    have hrun : (Builtin.append_ #[t, t] o.type #[.slice (some ⟨g, 0, none⟩) xs.length c, .slice A 0 mc]).run P w = .ok (.slice (some ⟨g, 0, none⟩) xs.length c) w := by
      cases A <;> simp [Builtin.append_, run_underlying ht, sizeOf, typeInfo, hi, Builtin.lenOf, Builtin.firstCells, loadCells, loadCellsFrom, h1, storeCells]
    unfold Oper.wp execOp
    simp only [ho, resolve, invoke, builtin, Sem.run_bind, Sem.run_pure, Result.andThen_ok, List.map_toArray, List.map_cons, List.map_nil, hs, hx, List.length_nil, hrun]
    exact h w (by simpa using hown) (Only.refl _ _ _) rfl
  · obtain ⟨b', off, rfl, _, _, _⟩ := hsl hy
    have hyl := flatMap_len hl ys
    have hxl := flatMap_len hl xs
    have hc : xs.length * i.size + (ys.flatMap enc).length ≤ cur.size := by
      rw [hyl, hsize, ← Nat.add_mul]
      exact Nat.le_trans (Nat.mul_le_mul_right sz hroom) h3
    have hrun := run_append_room (P := P) w t o.type e i ht hi g xs.length c cur hh ⟨b', off, none⟩ ys.length mc (ys.flatMap enc) (by rw [hsize]; exact hyl) (Sl.news hl hsz hsl) (flatMap_one h1c ys) hroom hc
    unfold Oper.wp execOp
    simp only [ho, resolve, invoke, builtin, Sem.run_bind, Sem.run_pure, Result.andThen_ok, List.map_toArray, List.map_cons, List.map_nil, hs, hx, hrun]
    refine h _ ?_ (Only.setRow _ g w _) (by simp [World.setRow])
    have hlen : (xs ++ ys).length = xs.length + ys.length := by simp
    have := Own.of_row (enc := enc) (sz := sz) (e := e) (xs := xs ++ ys) (c := c) hlo (setRow_heap w g cur (cur.toList.take (xs.length * i.size) ++ ys.flatMap enc ++ cur.toList.drop (xs.length * i.size + (ys.flatMap enc).length)).toArray e _ hh) (by omega) h2 (by
      subst hsize
      simp only [List.size_toArray, List.length_append, List.length_take, List.length_drop, Array.length_toList]
      omega) (by
      subst hsize
      rw [hlen, List.flatMap_append, h4, Nat.add_mul, ← hyl]
      simp only []
      rw [List.take_append, List.take_of_length_le (by rw [List.length_append, hxl]; omega), List.length_append, hxl, Nat.sub_self, List.take_zero, List.append_nil])
    rwa [hlen] at this
/-- 'append(s, make([]T, k)...)' where s has no room: a new row. -/
theorem wp_appZ (hl : ∀ x, (enc x).length = sz) (hsz : 0 < sz) {o : Oper} {a : Act} {K : Act → World → Prop} {Q : Exit → Act → World → Prop} (s x : Operand) (t tn : TypeId)
    (ho : o.op = .call { callee := .builtin .append, args := #[s, x], argTypes := #[t, tn] })
    (z : Value) (bytes : Nat) (kn kq : IntKind) (ht : P.underlying t = some (.slice e)) (htn : P.underlying tn = some (.int kn)) (hi : (P.info? e).map (fun i => (i.zero, i.size, i.bytes)) = some (some z, sz, bytes)) (z0 : α) (hz0 : z.cells.toList = enc z0)
    (lo' hi' : Nat) (A : Option Addr) (ys : List α) (m mc k : Nat) (hs : a.eval s = .slice A m mc) (hm : m = ys.length) (hsl : Sl enc sz w lo' hi' A ys) (hx : a.eval x = .int kq (k : Int)) (h0 : 0 < k) (hroom : mc < m + k) (hlo : lo ≤ w.heap.size)
    (hbound : (m + k) * bytes ≤ 140737488355328 ∧ m + k ≤ maxLen)
    (h : ∀ cp w', Own enc sz e w' lo (.slice (some ⟨w.heap.size, 0, none⟩) (m + k) cp) (ys ++ List.replicate k z0) → Below w.heap.size w w' → w'.heap.size = w.heap.size + 1 → K (a.put o.dst (.slice (some ⟨w.heap.size, 0, none⟩) (m + k) cp)) w') : o.wp P a w K Q := by
  subst hm
  obtain ⟨i, hi, hz, hsize, hby⟩ := info_parts hi
  have hyl := flatMap_len hl ys
  have hzs : z.cells.size = sz := by rw [← Array.length_toList, hz0, hl]
  have hold : (Builtin.firstCells i.size ys.length (.slice A ys.length mc)).run P w.drew = .ok (ys.flatMap enc).toArray w.drew := by
    by_cases hy : ys = []
    · subst hy
      cases A <;> simp [Builtin.firstCells, loadCells, loadCellsFrom]
    · obtain ⟨b', off, rfl, _, _, _⟩ := hsl hy
      exact run_firstCells_some (P := P) w.drew i.size ys.length ⟨b', off, none⟩ ys.length mc (ys.flatMap enc) (by rw [hsize]; exact hyl) (Sl.news hl hsz hsl)
  have hge := grownCap_ge w (ys.length + k) mc e
  have hcm : grownCap w (ys.length + k) mc e ≤ maxLen := grownCap_le_maxLen w (ys.length + k) mc e hbound.2
  have hm64 := hbound.2
  unfold maxLen at hm64
  have hk48 : k * i.bytes ≤ 281474976710656 := by
    have h1 := hbound.1
    rw [hby]
    have := Nat.mul_le_mul_right bytes (show k ≤ ys.length + k by omega)
    omega
  have hrun := Lib.run_append_grow_zeros (P := P) w t tn o.type e i z kq kn ht htn hi hz A ys.length mc (ys.flatMap enc) hold k h0 (by omega) hroom (by omega) hk48 (growslice_fits (by omega) (by rw [hby]; exact hbound.1))
  unfold Oper.wp execOp
  simp only [ho, resolve, invoke, builtin, Sem.run_bind, Sem.run_pure, Result.andThen_ok, List.map_toArray, List.map_cons, List.map_nil, hs, hx, hrun]
  have hzc : ∀ n : Nat, (Builtin.zeroCells z.cells n).toList = (List.replicate n z0).flatMap enc := by
    intro n
    have h1 := madeCells_toList z.cells (by omega) n
    have h2 : Builtin.zeroCells z.cells n = madeCells z.cells (n * z.cells.size) := rfl
    rw [h2, h1, hz0, List.flatMap_def, List.map_replicate]
  refine h _ _ (.inr ⟨w.heap.size, grownCap w (ys.length + k) mc e, _, ?_, hlo, heap_alloc_new w.drew _, ?_, hcm, ?_, ?_⟩) ((Below.refl w.heap.size w).drew.alloc (Nat.le_refl _) _) (by simp)
  · simp
  · simpa using hge
  · apply Nat.le_of_eq
    simp only [Array.size_append, List.size_toArray, size_zeroCells, hzs, hyl, ← Nat.add_mul]
    congr 1
    omega
  · have hlen : (ys ++ List.replicate k z0).length = ys.length + k := by simp
    rw [hlen, List.flatMap_append]
    simp only [Array.toList_append]
    rw [← hzc k]
    have hz1 : (Builtin.zeroCells z.cells k).toList.length = k * sz := by rw [Array.length_toList, size_zeroCells, hzs]
    rw [List.take_append, List.length_append, hz1, hyl, ← Nat.add_mul, Nat.sub_self, List.take_zero, List.append_nil, List.take_of_length_le (by rw [List.length_append, hz1, hyl, Nat.add_mul]; omega)]
/-- 'clear' of what lies behind a slice of the call's own. -/
theorem wp_clearO (hl : ∀ x, (enc x).length = sz) (hsz : 0 < sz) (h1z : ∀ u ∈ z0, Value.oneCell' u = true) {o : Oper} {a : Act} {K : Act → World → Prop} {Q : Exit → Act → World → Prop} (s : Operand) (t : TypeId)
    (ho : o.op = .call { callee := .builtin .clear, args := #[s], argTypes := #[t] })
    (z : Value) (bytes : Nat) (ht : P.underlying t = some (.slice e)) (hi : (P.info? e).map (fun i => (i.zero, i.size, i.bytes)) = some (some z, sz, bytes)) (hz0 : z.cells.toList = z0) (hz1 : z0.length = sz)
    (g m c k kc : Nat) (xs : List α) (hs : a.eval s = .slice (some ⟨g, m * sz, none⟩) k kc) (hown : Own enc sz e w lo (.slice (some ⟨g, 0, none⟩) m c) xs) (hroom : m + k ≤ c) (hk : 0 < k)
    (h : ∀ w', Own enc sz e w' lo (.slice (some ⟨g, 0, none⟩) m c) xs → Only w.heap.size (some g) w w' → w'.heap.size = w.heap.size → K (a.put o.dst (.tuple #[])) w') : o.wp P a w K Q := by
  obtain ⟨i, hi, hz, hsize, hby⟩ := info_parts hi
  obtain ⟨rfl, hlo, cur, hh, h1, h2, h3, h4⟩ := hown.row
  have hzs : z.cells.size = sz := by rw [← Array.length_toList, hz0, hz1]
  have hcs : (Builtin.zeroCells z.cells k).toList = (List.replicate k z0).flatten := by
    have h1 := madeCells_toList z.cells (by omega) k
    have h2 : Builtin.zeroCells z.cells k = madeCells z.cells (k * z.cells.size) := rfl
    rw [h2, h1, hz0]
  have hone : ∀ v ∈ (Builtin.zeroCells z.cells k).toList, v.oneCell' = true := by
    intro v hv
    rw [hcs] at hv
    obtain ⟨l, hl1, hl2⟩ := List.mem_flatten.1 hv
    have := List.eq_of_mem_replicate hl1
    subst this
    exact h1z v hl2
  have hlen : (Builtin.zeroCells z.cells k).toList.length = k * sz := by rw [Array.length_toList, size_zeroCells, hzs]
  have hfit : xs.length * sz + (Builtin.zeroCells z.cells k).toList.length ≤ cur.size := by
    rw [hlen, ← Nat.add_mul]
    exact Nat.le_trans (Nat.mul_le_mul_right sz hroom) h3
  have hst := run_storeCells_at P g (xs.length * sz) e (Builtin.zeroCells z.cells k).toList 0 cur w hh (by simpa using hfit) hone
  simp only [Nat.add_zero] at hst
  obtain ⟨k', rfl⟩ : ∃ k', k = k' + 1 := ⟨k - 1, by omega⟩
  have hrun : (Builtin.clear_ #[t] o.type #[.slice (some ⟨g, xs.length * sz, none⟩) (k' + 1) kc]).run P w = .ok (.tuple #[]) (w.setRow g (cur.toList.take (xs.length * sz) ++ (Builtin.zeroCells z.cells (k' + 1)).toList ++ cur.toList.drop (xs.length * sz + (Builtin.zeroCells z.cells (k' + 1)).toList.length)).toArray) := by
    simp [Builtin.clear_, run_underlying ht, zeroValue, typeInfo, hi, hz]
    rw [show (storeCells ⟨g, xs.length * sz, none⟩ (Builtin.zeroCells z.cells (k' + 1)).toList).run P w = _ from hst]
    simp
  unfold Oper.wp execOp
  simp only [ho, resolve, invoke, builtin, Sem.run_bind, Sem.run_pure, Result.andThen_ok, List.map_toArray, List.map_cons, List.map_nil, hs, hrun]
  refine h _ ?_ (Only.setRow _ g w _) (by simp [World.setRow])
  refine Own.of_row (enc := enc) (sz := sz) (e := e) (xs := xs) (c := c) (cur := (cur.toList.take (xs.length * sz) ++ (Builtin.zeroCells z.cells (k' + 1)).toList ++ cur.toList.drop (xs.length * sz + (Builtin.zeroCells z.cells (k' + 1)).toList.length)).toArray) hlo (setRow_heap w g cur _ e _ hh) h1 h2 (by
    simp only [List.size_toArray, List.length_append, List.length_take, List.length_drop]
    simp only [Array.length_toList] at hfit hlen ⊢
    omega) ?_
  have hc2 : xs.length * sz ≤ cur.toList.length := by
    have hct : cur.toList.length = cur.size := Array.length_toList
    omega
  have key : ∀ (L B : List Value) (q : Nat), q ≤ L.length → (L.take q ++ B).take q = L.take q := fun L B q hq => by
    rw [List.take_append, List.take_take, Nat.min_self, List.length_take, Nat.min_eq_left hq, Nat.sub_self, List.take_zero, List.append_nil]
  show List.take (xs.length * sz) (_ ++ _ ++ _) = _
  rw [List.append_assoc]
  exact (key _ _ _ hc2).trans h4
end
end Go.Proofs.YtajmfonepnkofaaDoor
