/-
  What 'IP' rests on, part 7 of 11 (texts of this seat put together: BaseC HP HR IA IJ IK IM IB).
  Conditions: none.
-/
import Derived.Test.YtajmfonepnkofaaDoorZ6
import Derived.Laws.CopyRow
import Derived.Lib.AppendZerosOnto
namespace Go.Proofs.YtajmfonepnkofaaDoor
open Go Go.RowKit
set_option linter.unusedVariables false
set_option linter.unusedSimpArgs false

section
variable {P : Program} {z0 : List Value} {α : Type} {enc : α → List Value} {sz : Nat} {e : TypeId} {w : World} {lo : Nat}
theorem Sl.news (hl : ∀ x, (enc x).length = sz) (hsz : 0 < sz) {lo' hi' b' off : Nat} {ys : List α} (hsl : Sl enc sz w lo' hi' (some ⟨b', off, none⟩) ys) :
    ∀ j u, (ys.flatMap enc)[j]? = some u → w.cell? ((⟨b', off, none⟩ : Addr).add j) = some u := by
  intro j u hu
  have hy : ys ≠ [] := by rintro rfl; simp at hu
  obtain ⟨b2, off2, he, _, _, hc⟩ := hsl hy
  injection he with he
  injection he with e1 e2
  subst e1; subst e2
  have hj : j < ys.length * sz := by rw [← flatMap_len hl ys]; exact (List.getElem?_eq_some_iff.1 hu).1
  have hk : j / sz < ys.length := Nat.div_lt_of_lt_mul (by rw [Nat.mul_comm]; exact hj)
  have hr : j % sz < sz := Nat.mod_lt _ hsz
  have hdm : j / sz * sz + j % sz = j := by rw [Nat.mul_comm]; exact Nat.div_add_mod j sz
  have hu' : (enc ys[j / sz])[j % sz]? = some ((enc ys[j / sz])[j % sz]'(by rw [hl]; exact hr)) := List.getElem?_eq_getElem _
  have h5 := flatMap_get hl ys (j / sz) ys[j / sz] (List.getElem?_eq_getElem hk) (j % sz) _ hu'
  rw [hdm, hu] at h5
  injection h5 with h5
  have h6 := hc (j / sz) ys[j / sz] (List.getElem?_eq_getElem hk) (j % sz) _ hu'
  rw [Nat.add_assoc, hdm, ← h5] at h6
  simpa [Addr.add] using (by by_cases hj0 : j = 0 <;> simp [hj0] at h6 ⊢ <;> exact h6)
theorem flatMap_one (h1c : ∀ x, ∀ u ∈ enc x, u.oneCell' = true) (ys : List α) : ∀ u ∈ ys.flatMap enc, u.oneCell' = true := fun u hu => by
  obtain ⟨x, _, hx⟩ := List.mem_flatMap.1 hu
  exact h1c x u hx
theorem Only.setRow (B g : Nat) (w : World) (cs : Array Value) : Only B (some g) w (w.setRow g cs) :=
  ⟨rfl, rfl, rfl, by simp [World.setRow], fun k hk hne => setRow_other w g k cs (fun e => hne (by rw [e]))⟩
/-- Elements from i on, overwritten. -/
theorem Own.splice (hl : ∀ x, (enc x).length = sz) {g n c : Nat} {xs ys : List α} {cur : Array Value} (h : Own enc sz e w lo (.slice (some ⟨g, 0, none⟩) n c) xs) (hg : w.heap[g]? = some (.cells cur e (0, 0))) {i : Nat} (hi : i + ys.length ≤ n) :
    Own enc sz e (w.setRow g (cur.toList.take (i * sz) ++ ys.flatMap enc ++ cur.toList.drop (i * sz + (ys.flatMap enc).length)).toArray) lo (.slice (some ⟨g, 0, none⟩) n c) (xs.take i ++ ys ++ xs.drop (i + ys.length)) := by
  obtain ⟨rfl, hlo, cur', hh, h1, h2, h3, h4⟩ := h.row
  rw [hg] at hh
  injection hh with hh
  injection hh with hh
  subst hh
  have hyl := flatMap_len hl ys
  have hz : (xs.take i ++ ys ++ xs.drop (i + ys.length)).length = xs.length := by simp; omega
  have hb2 : xs.length * sz ≤ c * sz := Nat.mul_le_mul_right sz h1
  have hb1 : i * sz + ys.length * sz ≤ xs.length * sz := by rw [← Nat.add_mul]; exact Nat.mul_le_mul_right sz hi
  have := Own.of_row (enc := enc) (sz := sz) (e := e) (xs := xs.take i ++ ys ++ xs.drop (i + ys.length)) (c := c) hlo (setRow_heap w g cur (cur.toList.take (i * sz) ++ ys.flatMap enc ++ cur.toList.drop (i * sz + (ys.flatMap enc).length)).toArray e _ hg) (by omega) h2 (by
      simp only [List.size_toArray, List.length_append, List.length_take, List.length_drop, Array.length_toList, hyl]; omega) (by
      rw [hz]
      simp only []
      rw [hyl]
      have := splice_take cur.toList (ys.flatMap enc) (i * sz) (ys.length * sz) (xs.length * sz) hb1 hyl (by simp only [Array.length_toList]; omega)
      rw [this, h4]
      have e1 : (xs.flatMap enc).take (i * sz) = (xs.take i).flatMap enc := by
        have : xs.flatMap enc = (xs.take i).flatMap enc ++ (xs.drop i).flatMap enc := by rw [← List.flatMap_append, List.take_append_drop]
        rw [this, List.take_append, flatMap_len hl, List.length_take, Nat.min_eq_left (by omega), Nat.sub_self, List.take_zero, List.append_nil, List.take_of_length_le (by rw [flatMap_len hl, List.length_take, Nat.min_eq_left (by omega)]; omega)]
      have e2 : (xs.flatMap enc).drop (i * sz + ys.length * sz) = (xs.drop (i + ys.length)).flatMap enc := by
        have : xs.flatMap enc = (xs.take (i + ys.length)).flatMap enc ++ (xs.drop (i + ys.length)).flatMap enc := by rw [← List.flatMap_append, List.take_append_drop]
        rw [this, ← Nat.add_mul, List.drop_append, flatMap_len hl, List.length_take, Nat.min_eq_left (by omega), Nat.sub_self, List.drop_zero, List.drop_of_length_le (by rw [flatMap_len hl, List.length_take, Nat.min_eq_left (by omega)]; omega), List.nil_append]
      rw [e1, e2, List.flatMap_append, List.flatMap_append])
  rwa [hz] at this
theorem run_copyN (dT sT ty elem : TypeId) (g o dLen dCap : Nat) (a : Addr) (sLen sCap : Nat) (cur : Array Value) (t : TypeId) (cs : List Value) (k : Nat)
    (hu : P.underlying dT = some (.slice elem)) (i : TypeInfo) (hi : P.info? elem = some i) (hsize : i.size = sz)
    (hg : w.heap[g]? = some (.cells cur t (0, 0))) (hk : k = Nat.min sLen dLen) (hn : cs.length = k * sz)
    (hsrc : ∀ j v, cs[j]? = some v → w.cell? (a.add j) = some v) (hfit : o + cs.length ≤ cur.size) (h1 : ∀ v ∈ cs, v.oneCell' = true) :
    (Builtin.copy_ #[dT, sT] ty #[.slice (some ⟨g, o, none⟩) dLen dCap, .slice (some a) sLen sCap]).run P w =
      .ok (goInt k) (w.setRow g (cur.toList.take o ++ cs ++ cur.toList.drop (o + cs.length)).toArray) := by
  have hf := run_firstCells_some (P := P) w i.size k a sLen sCap cs (by rw [hsize]; exact hn) hsrc
  have hst := run_storeCells_at P g o t cs 0 cur w hg (by simpa using hfit) h1
  simp [Builtin.copy_, run_underlying hu, Builtin.lenOf, sizeOf, typeInfo, hi, ← hk, hf, hst]
/-- 'copy(d[i:], s)' into a slice of the call's own, where there is room for all of s. -/
theorem wp_copyO (hl : ∀ x, (enc x).length = sz) (hsz : 0 < sz) (h1c : ∀ x, ∀ u ∈ enc x, u.oneCell' = true)
    {o : Oper} {a : Act} {K : Act → World → Prop} {Q : Exit → Act → World → Prop} (d s : Operand) (dT : TypeId) (ho : o.op = .call { callee := .builtin .copy, args := #[d, s], argTypes := #[dT, dT] })
    (z : Value) (bytes : Nat) (hu : P.underlying dT = some (.slice e)) (hi : (P.info? e).map (fun i => (i.zero, i.size, i.bytes)) = some (some z, sz, bytes))
    (g n c : Nat) (xs : List α) (hown : Own enc sz e w lo (.slice (some ⟨g, 0, none⟩) n c) xs) (i dl dc : Nat) (hd : a.eval d = .slice (some ⟨g, i * sz, none⟩) dl dc)
    (lo' hi' : Nat) (A : Option Addr) (ys : List α) (m sc : Nat) (hs : a.eval s = .slice A m sc) (hm : m = ys.length) (hsl : Sl enc sz w lo' hi' A ys) (hfit : i + ys.length ≤ n ∧ ys.length ≤ dl)
    (h : ∀ w', Own enc sz e w' lo (.slice (some ⟨g, 0, none⟩) n c) (xs.take i ++ ys ++ xs.drop (i + ys.length)) → Only w.heap.size (some g) w w' → w'.heap.size = w.heap.size → K (a.put o.dst (goInt ys.length)) w') : o.wp P a w K Q := by
  subst hm
  obtain ⟨ti, hti, hz, hsize, hby⟩ := info_parts hi
  by_cases hy : ys = []
  · subst hy
    have hrun : (Builtin.copy_ #[dT, dT] o.type #[.slice (some ⟨g, i * sz, none⟩) dl dc, .slice A 0 sc]).run P w = .ok (goInt 0) w := by
      cases A <;> simp [Builtin.copy_, run_underlying hu, Builtin.lenOf, Builtin.firstCells, sizeOf, typeInfo, hti, storeCells, loadCells, loadCellsFrom]
    unfold Oper.wp execOp
    simp only [ho, resolve, invoke, builtin, Sem.run_bind, Sem.run_pure, Result.andThen_ok, List.map_toArray, List.map_cons, List.map_nil, hd, hs, List.length_nil, hrun]
    exact h w (by simpa using hown) (Only.refl _ _ _) rfl
  · obtain ⟨b', off, rfl, _, _, _⟩ := hsl hy
    obtain ⟨hnx, hlo, cur, hh, h1, h2, h3, h4⟩ := hown.row
    have hyl := flatMap_len hl ys
    have hc : i * sz + (ys.flatMap enc).length ≤ cur.size := by
      rw [hyl, ← Nat.add_mul]
      exact Nat.le_trans (Nat.mul_le_mul_right sz (by omega : i + ys.length ≤ c)) h3
    have hrun := run_copyN (P := P) (w := w) (sz := sz) dT dT o.type e g (i * sz) dl dc ⟨b', off, none⟩ ys.length sc cur e (ys.flatMap enc) ys.length hu ti hti hsize hh (by simp only [Nat.min_def]; split <;> omega) hyl (Sl.news hl hsz hsl) hc (flatMap_one h1c ys)
    unfold Oper.wp execOp
    simp only [ho, resolve, invoke, builtin, Sem.run_bind, Sem.run_pure, Result.andThen_ok, List.map_toArray, List.map_cons, List.map_nil, hd, hs, hrun]
    exact h _ (hown.splice hl hh hfit.1) (Only.setRow _ g w _) (by simp [World.setRow])
/-- 'append(s, x...)' where s has room: in place. -/
theorem wp_appR (hl : ∀ x, (enc x).length = sz) (hsz : 0 < sz) (h1c : ∀ x, ∀ u ∈ enc x, u.oneCell' = true)
    {o : Oper} {a : Act} {K : Act → World → Prop} {Q : Exit → Act → World → Prop} (s x : Operand) (t : TypeId)
    (ho : o.op = .call { callee := .builtin .append, args := #[s, x], argTypes := #[t, t] })
    (z : Value) (bytes : Nat) (ht : P.underlying t = some (.slice e)) (hi : (P.info? e).map (fun i => (i.zero, i.size, i.bytes)) = some (some z, sz, bytes))
    (g k c : Nat) (xs : List α) (hs : a.eval s = .slice (some ⟨g, 0, none⟩) k c) (hown : Own enc sz e w lo (.slice (some ⟨g, 0, none⟩) k c) xs)
    (lo' hi' : Nat) (A : Option Addr) (ys : List α) (m mc : Nat) (hx : a.eval x = .slice A m mc) (hm : m = ys.length) (hsl : Sl enc sz w lo' hi' A ys) (hroom : k + m ≤ c)
    (h : ∀ w', Own enc sz e w' lo (.slice (some ⟨g, 0, none⟩) (k + m) c) (xs ++ ys) → Only w.heap.size (some g) w w' → w'.heap.size = w.heap.size → K (a.put o.dst (.slice (some ⟨g, 0, none⟩) (k + m) c)) w') : o.wp P a w K Q := by
  subst hm
  obtain ⟨i, hi, hz, hsize, hby⟩ := info_parts hi
  obtain ⟨rfl, hlo, cur, hh, h1, h2, h3, h4⟩ := hown.row
  by_cases hy : ys = []
  · subst hy
    have hrun : (Builtin.append_ #[t, t] o.type #[.slice (some ⟨g, 0, none⟩) xs.length c, .slice A 0 mc]).run P w = .ok (.slice (some ⟨g, 0, none⟩) xs.length c) w := by
      cases A <;> simp [Builtin.append_, run_underlying ht, sizeOf, typeInfo, hi, Builtin.lenOf, Builtin.firstCells, loadCells, loadCellsFrom, h1, storeCells]
    unfold Oper.wp execOp
    simp only [ho, resolve, invoke, builtin, Sem.run_bind, Sem.run_pure, Result.andThen_ok, List.map_toArray, List.map_cons, List.map_nil, hs, hx, List.length_nil, hrun]
    exact h w (by simpa using hown) (Only.refl _ _ _) rfl
  · obtain ⟨b', off, rfl, _, _, _⟩ := hsl hy
    have hyl := flatMap_len hl ys
    have hxl := flatMap_len hl xs
    have hc : xs.length * i.size + (ys.flatMap enc).length ≤ cur.size := by
      rw [hyl, hsize, ← Nat.add_mul]
      exact Nat.le_trans (Nat.mul_le_mul_right sz hroom) h3
    have hrun := run_append_room (P := P) w t o.type e i ht hi g xs.length c cur hh ⟨b', off, none⟩ ys.length mc (ys.flatMap enc) (by rw [hsize]; exact hyl) (Sl.news hl hsz hsl) (flatMap_one h1c ys) hroom hc
    unfold Oper.wp execOp
    simp only [ho, resolve, invoke, builtin, Sem.run_bind, Sem.run_pure, Result.andThen_ok, List.map_toArray, List.map_cons, List.map_nil, hs, hx, hrun]
    refine h _ ?_ (Only.setRow _ g w _) (by simp [World.setRow])
    have hlen : (xs ++ ys).length = xs.length + ys.length := by simp
    have := Own.of_row (enc := enc) (sz := sz) (e := e) (xs := xs ++ ys) (c := c) hlo (setRow_heap w g cur (cur.toList.take (xs.length * i.size) ++ ys.flatMap enc ++ cur.toList.drop (xs.length * i.size + (ys.flatMap enc).length)).toArray e _ hh) (by omega) h2 (by
      subst hsize
      simp only [List.size_toArray, List.length_append, List.length_take, List.length_drop, Array.length_toList]
      omega) (by
      subst hsize
      rw [hlen, List.flatMap_append, h4, Nat.add_mul, ← hyl]
      simp only []
      rw [List.take_append, List.take_of_length_le (by rw [List.length_append, hxl]; omega), List.length_append, hxl, Nat.sub_self, List.take_zero, List.append_nil])
    rwa [hlen] at this
/-- 'append(s, make([]T, k)...)' where s has no room: a new row. -/
theorem wp_appZ (hl : ∀ x, (enc x).length = sz) (hsz : 0 < sz) {o : Oper} {a : Act} {K : Act → World → Prop} {Q : Exit → Act → World → Prop} (s x : Operand) (t tn : TypeId)
    (ho : o.op = .call { callee := .builtin .append, args := #[s, x], argTypes := #[t, tn] })
    (z : Value) (bytes : Nat) (kn kq : IntKind) (ht : P.underlying t = some (.slice e)) (htn : P.underlying tn = some (.int kn)) (hi : (P.info? e).map (fun i => (i.zero, i.size, i.bytes)) = some (some z, sz, bytes)) (z0 : α) (hz0 : z.cells.toList = enc z0)
    (lo' hi' : Nat) (A : Option Addr) (ys : List α) (m mc k : Nat) (hs : a.eval s = .slice A m mc) (hm : m = ys.length) (hsl : Sl enc sz w lo' hi' A ys) (hx : a.eval x = .int kq (k : Int)) (h0 : 0 < k) (hroom : mc < m + k) (hlo : lo ≤ w.heap.size)
    (hbound : (m + k) * bytes ≤ 140737488355328 ∧ m + k ≤ maxLen)
    (h : ∀ cp w', Own enc sz e w' lo (.slice (some ⟨w.heap.size, 0, none⟩) (m + k) cp) (ys ++ List.replicate k z0) → Below w.heap.size w w' → w'.heap.size = w.heap.size + 1 → K (a.put o.dst (.slice (some ⟨w.heap.size, 0, none⟩) (m + k) cp)) w') : o.wp P a w K Q := by
  subst hm
  obtain ⟨i, hi, hz, hsize, hby⟩ := info_parts hi
  have hyl := flatMap_len hl ys
  have hzs : z.cells.size = sz := by rw [← Array.length_toList, hz0, hl]
  have hold : (Builtin.firstCells i.size ys.length (.slice A ys.length mc)).run P w.drew = .ok (ys.flatMap enc).toArray w.drew := by
    by_cases hy : ys = []
    · subst hy
      cases A <;> simp [Builtin.firstCells, loadCells, loadCellsFrom]
    · obtain ⟨b', off, rfl, _, _, _⟩ := hsl hy
      exact run_firstCells_some (P := P) w.drew i.size ys.length ⟨b', off, none⟩ ys.length mc (ys.flatMap enc) (by rw [hsize]; exact hyl) (Sl.news hl hsz hsl)
  have hge := grownCap_ge w (ys.length + k) mc e
  have hcm : grownCap w (ys.length + k) mc e ≤ maxLen := grownCap_le_maxLen w (ys.length + k) mc e hbound.2
  have hm64 := hbound.2
  unfold maxLen at hm64
  have hk48 : k * i.bytes ≤ 281474976710656 := by
    have h1 := hbound.1
    rw [hby]
    have := Nat.mul_le_mul_right bytes (show k ≤ ys.length + k by omega)
    omega
  have hrun := Lib.run_append_grow_zeros (P := P) w t tn o.type e i z kq kn ht htn hi hz A ys.length mc (ys.flatMap enc) hold k h0 (by omega) hroom (by omega) hk48 (growslice_fits (by omega) (by rw [hby]; exact hbound.1))
  unfold Oper.wp execOp
  simp only [ho, resolve, invoke, builtin, Sem.run_bind, Sem.run_pure, Result.andThen_ok, List.map_toArray, List.map_cons, List.map_nil, hs, hx, hrun]
  have hzc : ∀ n : Nat, (Builtin.zeroCells z.cells n).toList = (List.replicate n z0).flatMap enc := by
    intro n
    have h1 := madeCells_toList z.cells (by omega) n
    have h2 : Builtin.zeroCells z.cells n = madeCells z.cells (n * z.cells.size) := rfl
    rw [h2, h1, hz0, List.flatMap_def, List.map_replicate]
  refine h _ _ (.inr ⟨w.heap.size, grownCap w (ys.length + k) mc e, _, ?_, hlo, heap_alloc_new w.drew _, ?_, hcm, ?_, ?_⟩) ((Below.refl w.heap.size w).drew.alloc (Nat.le_refl _) _) (by simp)
  · simp
  · simpa using hge
  · apply Nat.le_of_eq
    simp only [Array.size_append, List.size_toArray, size_zeroCells, hzs, hyl, ← Nat.add_mul]
    congr 1
    omega
  · have hlen : (ys ++ List.replicate k z0).length = ys.length + k := by simp
    rw [hlen, List.flatMap_append]
    simp only [Array.toList_append]
    rw [← hzc k]
    have hz1 : (Builtin.zeroCells z.cells k).toList.length = k * sz := by rw [Array.length_toList, size_zeroCells, hzs]
    rw [List.take_append, List.length_append, hz1, hyl, ← Nat.add_mul, Nat.sub_self, List.take_zero, List.append_nil, List.take_of_length_le (by rw [List.length_append, hz1, hyl, Nat.add_mul]; omega)]
/-- 'clear' of what lies behind a slice of the call's own. -/
theorem wp_clearO (hl : ∀ x, (enc x).length = sz) (hsz : 0 < sz) (h1z : ∀ u ∈ z0, Value.oneCell' u = true) {o : Oper} {a : Act} {K : Act → World → Prop} {Q : Exit → Act → World → Prop} (s : Operand) (t : TypeId)
    (ho : o.op = .call { callee := .builtin .clear, args := #[s], argTypes := #[t] })
    (z : Value) (bytes : Nat) (ht : P.underlying t = some (.slice e)) (hi : (P.info? e).map (fun i => (i.zero, i.size, i.bytes)) = some (some z, sz, bytes)) (hz0 : z.cells.toList = z0) (hz1 : z0.length = sz)
    (g m c k kc : Nat) (xs : List α) (hs : a.eval s = .slice (some ⟨g, m * sz, none⟩) k kc) (hown : Own enc sz e w lo (.slice (some ⟨g, 0, none⟩) m c) xs) (hroom : m + k ≤ c) (hk : 0 < k)
    (h : ∀ w', Own enc sz e w' lo (.slice (some ⟨g, 0, none⟩) m c) xs → Only w.heap.size (some g) w w' → w'.heap.size = w.heap.size → K (a.put o.dst (.tuple #[])) w') : o.wp P a w K Q := by
  obtain ⟨i, hi, hz, hsize, hby⟩ := info_parts hi
  obtain ⟨rfl, hlo, cur, hh, h1, h2, h3, h4⟩ := hown.row
  have hzs : z.cells.size = sz := by rw [← Array.length_toList, hz0, hz1]
  have hcs : (Builtin.zeroCells z.cells k).toList = (List.replicate k z0).flatten := by
    have h1 := madeCells_toList z.cells (by omega) k
    have h2 : Builtin.zeroCells z.cells k = madeCells z.cells (k * z.cells.size) := rfl
    rw [h2, h1, hz0]
  have hone : ∀ v ∈ (Builtin.zeroCells z.cells k).toList, v.oneCell' = true := by
    intro v hv
    rw [hcs] at hv
    obtain ⟨l, hl1, hl2⟩ := List.mem_flatten.1 hv
    have := List.eq_of_mem_replicate hl1
    subst this
    exact h1z v hl2
  have hlen : (Builtin.zeroCells z.cells k).toList.length = k * sz := by rw [Array.length_toList, size_zeroCells, hzs]
  have hfit : xs.length * sz + (Builtin.zeroCells z.cells k).toList.length ≤ cur.size := by
    rw [hlen, ← Nat.add_mul]
    exact Nat.le_trans (Nat.mul_le_mul_right sz hroom) h3
  have hst := run_storeCells_at P g (xs.length * sz) e (Builtin.zeroCells z.cells k).toList 0 cur w hh (by simpa using hfit) hone
  simp only [Nat.add_zero] at hst
  obtain ⟨k', rfl⟩ : ∃ k', k = k' + 1 := ⟨k - 1, by omega⟩
  have hrun : (Builtin.clear_ #[t] o.type #[.slice (some ⟨g, xs.length * sz, none⟩) (k' + 1) kc]).run P w = .ok (.tuple #[]) (w.setRow g (cur.toList.take (xs.length * sz) ++ (Builtin.zeroCells z.cells (k' + 1)).toList ++ cur.toList.drop (xs.length * sz + (Builtin.zeroCells z.cells (k' + 1)).toList.length)).toArray) := by
    simp [Builtin.clear_, run_underlying ht, zeroValue, typeInfo, hi, hz]
    rw [show (storeCells ⟨g, xs.length * sz, none⟩ (Builtin.zeroCells z.cells (k' + 1)).toList).run P w = _ from hst]
    simp
  unfold Oper.wp execOp
  simp only [ho, resolve, invoke, builtin, Sem.run_bind, Sem.run_pure, Result.andThen_ok, List.map_toArray, List.map_cons, List.map_nil, hs, hrun]
  refine h _ ?_ (Only.setRow _ g w _) (by simp [World.setRow])
  refine Own.of_row (enc := enc) (sz := sz) (e := e) (xs := xs) (c := c) (cur := (cur.toList.take (xs.length * sz) ++ (Builtin.zeroCells z.cells (k' + 1)).toList ++ cur.toList.drop (xs.length * sz + (Builtin.zeroCells z.cells (k' + 1)).toList.length)).toArray) hlo (setRow_heap w g cur _ e _ hh) h1 h2 (by
    simp only [List.size_toArray, List.length_append, List.length_take, List.length_drop]
    simp only [Array.length_toList] at hfit hlen ⊢
    omega) ?_
  have hc2 : xs.length * sz ≤ cur.toList.length := by
    have hct : cur.toList.length = cur.size := Array.length_toList
    omega
  have key : ∀ (L B : List Value) (q : Nat), q ≤ L.length → (L.take q ++ B).take q = L.take q := fun L B q hq => by
    rw [List.take_append, List.take_take, Nat.min_self, List.length_take, Nat.min_eq_left hq, Nat.sub_self, List.take_zero, List.append_nil]
  show List.take (xs.length * sz) (_ ++ _ ++ _) = _
  rw [List.append_assoc]
  exact (key _ _ _ hc2).trans h4
end
end Go.Proofs.YtajmfonepnkofaaDoor
namespace Go.Proofs.YtajmfonepnkofaaDoor
open Go.RowKit Rg
set_option linter.unusedVariables false
set_option linter.unusedSimpArgs false

theorem zeroEnt : (Value.agg #[.int .i64 0, .int .i64 0, .int .i64 0, .int .i64 0, .int .i64 0]).cells.toList = encEnt ent0 := rfl
theorem ins_splice {α : Type} (es : List α) (i n : Nat) (t : α) (hlen : es.length = n) (hi : i < n) (z : α) :
    List.take (i + 1) (es.take i ++ t :: List.replicate (n - i) z) ++ es.drop i ++ List.drop (i + 1 + (es.drop i).length) (es.take i ++ t :: List.replicate (n - i) z) = es.take i ++ t :: es.drop i := by
  have h1 : (es.take i).length = i := by rw [List.length_take]; omega
  have e1 : es.take i ++ t :: List.replicate (n - i) z = (es.take i ++ [t]) ++ List.replicate (n - i) z := by simp
  have h2 : (es.take i ++ [t]).length = i + 1 := by rw [List.length_append, h1]; rfl
  have h3 : (es.drop i).length = n - i := by rw [List.length_drop, hlen]
  have h4 : List.drop (i + 1 + (es.drop i).length) ((es.take i ++ [t]) ++ List.replicate (n - i) z) = [] := List.drop_of_length_le (by rw [List.length_append, h2, List.length_replicate, h3]; omega)
  rw [e1, List.take_left' h2, h4, List.append_nil, List.append_assoc]
  rfl
set_option maxRecDepth 100000 in
set_option maxHeartbeats 1000000 in
theorem Insert_c (A : Option Addr) (n lo i : Nat) (es : List EntT) (t : EntT) (vb : Nat) (w : World) (ho : Own encEnt 5 82 w lo (.slice A n n) es) (hi : i ≤ n) (hn4 : n ≤ 4) (hlo : lo ≤ w.heap.size) (hv : Sl encEnt 5 w 0 w.heap.size (some ⟨vb, 0, none⟩) [t]) :
    Calls Tryd.prog 71 #[.slice A n n, .int .i64 (i : Int), .slice (some ⟨vb, 0, none⟩) 1 1] w fun e w' => ∃ v, e = .returned v ∧ Own encEnt 5 82 w' lo v (es.take i ++ t :: es.drop i) ∧ Only w.heap.size (Value.slice A n n).ownBlock w w' := by
  have hl := hide ho.lenEq
  by_cases hin : i = n
  · subst hin
    have e1 : es.take i ++ t :: es.drop i = es ++ [t] := by rw [List.take_of_length_le (by rw [← hl.out]; omega), List.drop_of_length_le (by rw [← hl.out]; omega)]
    rw [e1]
    clear e1
    have hA := hide (fun (h : 0 < i) => ho.addrAt h)
    cases A with
    | none =>
      obtain rfl : i = 0 := by
        rcases Nat.eq_zero_or_pos i with h | h
        · exact h
        · obtain ⟨g, hg, _⟩ := hA.out h; cases hg
      clear hA
      go_enter Tryd.func71, Tryd.ntmps71
      go_wp2_with (first
        | (at_builtin; refine wpList_app encEnt_len (by omega) encEnt_one rfl _ _ 33 rfl 82 _ 40 Tryd.underlying33 infoEnt rfl lo _ es rfl ho 0 w.heap.size _ [t] _ _ rfl rfl hv (by have := hl.out; simp [maxLen]; omega) hlo ?_)
        | fail)
      intro v' w' ho' hg' hb'
      go_wp2
      go_ret
      exact ⟨_, rfl, ho', Only.of_grown hg'⟩
    | some ad =>
      obtain ⟨g, hg⟩ : ∃ g, ad = ⟨g, 0, none⟩ := by
        rcases ho with ⟨h, _⟩ | ⟨g, cap, cur, h, _⟩
        · cases h
        · injection h with h1 h2 h3; injection h1 with h1; exact ⟨g, h1⟩
      subst hg
      go_enter Tryd.func71, Tryd.ntmps71
      go_wp2_with (first
        | (at_builtin; refine wpList_app encEnt_len (by omega) encEnt_one rfl _ _ 33 rfl 82 _ 40 Tryd.underlying33 infoEnt rfl lo _ es rfl ho 0 w.heap.size _ [t] _ _ rfl rfl hv (by have := hl.out; simp [maxLen]; omega) hlo ?_)
        | fail)
      all_goals
        intro v' w' ho' hg' hb'
        go_wp2
        go_ret
        exact ⟨_, rfl, ho', Only.of_grown hg'⟩
  · have hlt : i < n := by omega
    obtain ⟨g, rfl, hg1, hg2⟩ := ho.addrAt (show 0 < n by omega)
    have hlx : es.length = n := hl.out.symm
    have hs := hide (ho.slAt encEnt_len).2.2
    have hne1 : ((i : Int) == (n : Int)) = false := by simp; omega
    have hgt : decide ((n : Int) < (n : Int) + 1) = true := by simp; omega
    have hk : ((n : Int) + 1 - (i : Int)) = ((n + 1 - i : Nat) : Int) := by omega
    have htk : Hid (i = (es.take i).length) := hide (by rw [List.length_take]; omega)
    have hdl : Hid (n - i = (es.drop i).length) := hide (by rw [List.length_drop, hlx])
    have hlx' := hide hlx
    clear hlx
    go_enter Tryd.func71, Tryd.ntmps71
    go_wp2_with (first
      | (at_builtin; refine wpList_plain rfl fun _ hK => wp_appZ encEnt_len (by omega) _ _ 33 3 rfl _ 40 .i64 .i64 Tryd.underlying33 Tryd.underlying3 infoEnt ent0 zeroEnt lo w.heap.size (some ⟨g, 0, none⟩) (es.take i) i n (n + 1 - i) rfl htk.out (hs.out.take_ i) rfl (by omega) (by omega) hlo (by simp only [maxLen]; omega) ?_; intro cp w3 ho3 hb3 hz3; (rw [show i + (n + 1 - i) = n + 1 by omega] at ho3 ⊢); have hcp := ho3.cap; have hcp1 := hcp.1; have hcp2 := hcp.2; (unfold maxLen at hcp2); clear hcp; refine hK _ _ ?_)
      | (refine wpList_plain rfl fun _ hK => wp_copyO encEnt_len (by omega) encEnt_one _ _ 33 rfl _ 40 Tryd.underlying33 infoEnt w.heap.size (n + 1) cp _ ho3 i (n + 1 - i) (cp - i) rfl 0 w.heap.size (some ⟨vb, 0, none⟩) [t] 1 1 rfl rfl (hv.below hb3 (Nat.le_refl _)) ⟨by simp; omega, by simp; omega⟩ ?_; intro w4 ho4 hb4 hz4; refine hK _ _ ?_)
      | fail)
    have hx4 : Hid (List.take i (List.take i es ++ List.replicate (n + 1 - i) ent0) ++ [t] ++ List.drop (i + [t].length) (List.take i es ++ List.replicate (n + 1 - i) ent0) = es.take i ++ t :: List.replicate (n - i) ent0) := hide (by
      have h1 : (es.take i).length = i := htk.out.symm
      rw [List.take_append, h1, Nat.sub_self, List.take_zero, List.append_nil, List.take_of_length_le (by omega), List.drop_append, h1, List.drop_of_length_le (by rw [h1]; simp), List.nil_append, List.drop_replicate, List.append_assoc]
      congr 2
      simp
      omega)
    rw [hx4.out] at ho4
    have hb34 : Below w.heap.size w w4 := hb3.trans (hb4.toBelow (by omega) (fun k hk => by injection hk with hk; omega))
    have hsd : Hid (Sl encEnt 5 w4 0 w.heap.size (some ⟨g, i * 5, none⟩) (es.drop i)) := hide (by
      have h1 := ((hs.out.rdn encEnt_len hlx'.out.symm (Nat.le_refl _) (by simp only [maxLen]; omega)).drop_ i hi).sl
      rw [Nat.zero_add] at h1
      exact (h1.below hb34 (Nat.le_refl _)).mono (Nat.zero_le _) (Nat.le_refl _))
    go_wp2
    refine wp_region_T (fun _ => True) [] [] [] [0, 1, 2, 3, 4, 5, 6, 7, 8] (by kernel_rfl) (by kernel_rfl) (by kernel_rfl) trivial ?_; simp only [pickL, List.getElem?_cons_succ, List.getElem?_cons_zero]
    go_wp2_with (first
      | ((first | (with_reducible refine wpT_x0 ?_ ?_ ?_) | (with_reducible refine wpT_xs0 ?_ ?_ ?_)); (focus rfl); (focus rfl); intro K hK; refine wp_copyO encEnt_len (by omega) encEnt_one _ _ 33 rfl _ 40 Tryd.underlying33 infoEnt w.heap.size (n + 1) cp _ ho4.drew (i + 1) _ _ rfl 0 w.heap.size (some ⟨g, i * 5, none⟩) (es.drop i) (n - i) (n - i) rfl hdl.out (show Sl encEnt 5 w4.drew 0 w.heap.size (some ⟨g, i * 5, none⟩) (es.drop i) from hsd.out) ⟨by have := hdl.out; omega, by have := hdl.out; omega⟩ ?_; intro w5 ho5 hb5 hz5; have hK := hK)
      | ((with_reducible refine wpT_q0 ?_ ?_ ?_ ?_); (focus rfl); (focus rfl); (focus rfl); intro K hK) | ((with_reducible refine wpT_x0 ?_ ?_ ?_); (focus rfl); (focus rfl); intro K hK) | ((with_reducible refine wpT_noL ?_ ?_); (focus (first | exact wanted_no _ _ _ rfl rfl rfl | exact wanted_un _ _ _ rfl rfl rfl)); simp only [setO, List.set_cons_succ, List.set_cons_zero]) | ((with_reducible refine wpT_q1 ?_ ?_ ?_ ?_); (focus exact wanted_yes _ _ _ rfl rfl rfl); (focus rfl); (focus rfl); intro K hK) | ((with_reducible refine wpT_x1 ?_ ?_ ?_); (focus exact wanted_yes _ _ _ rfl rfl rfl); (focus rfl); intro K hK) | ((with_reducible refine wpT_nil ?_); try dsimp only)
      | fail)
    go_ret
    refine ⟨_, rfl, ?_, ?_⟩
    · rw [ins_splice es i n t hlx'.out hlt ent0] at ho5
      exact ho5
    · have hb5' : Only w4.heap.size (some w.heap.size) w4 w5 := ⟨hb5.os, hb5.tape, hb5.output, hb5.size, hb5.block⟩
      have hz34 := hb34.size
      exact Only.of_below (hb34.trans (hb5'.toBelow hz34 (fun k hk => by injection hk with hk; omega)))

set_option maxRecDepth 100000 in
set_option maxHeartbeats 1000000 in
theorem Delete_c (g n lo i : Nat) (es : List EntT) (w : World) (ho : Own encEnt 5 82 w lo (.slice (some ⟨g, 0, none⟩) n n) es) (hi : i < n) (hn4 : n ≤ 4) :
    Calls Tryd.prog 74 #[.slice (some ⟨g, 0, none⟩) n n, .int .i64 (i : Int), .int .i64 ((i : Int) + 1)] w fun e w' => e = .returned (.slice (some ⟨g, 0, none⟩) (n - 1) n) ∧ Own encEnt 5 82 w' lo (.slice (some ⟨g, 0, none⟩) (n - 1) n) (es.eraseIdx i) ∧ Only w.heap.size (some g) w w' := by
  have hl := hide ho.lenEq
  have hlx : es.length = n := hl.out.symm
  have hct := ho.cutTo encEnt_len (Nat.le_of_lt hi)
  have hs := (ho.slAt encEnt_len).2.2
  have hE : Hid (es.take i ++ es.drop (i + 1) = es.eraseIdx i) := hide (sl_take_drop es i)
  have hdl : Hid (n - (i + 1) = (es.drop (i + 1)).length) := hide (by rw [List.length_drop, hlx])
  have hne : ((i : Int) == (i : Int) + 1) = false := by simp; omega
  have hsd0 := ((hs.rdn encEnt_len hlx.symm (Nat.le_refl _) (by simp only [maxLen]; omega)).drop_ (i + 1) (by omega)).sl
  rw [Nat.zero_add] at hsd0
  have hsd : Hid (Sl encEnt 5 w lo w.heap.size (some ⟨g, (i + 1) * 5, none⟩) (es.drop (i + 1))) := hide hsd0
  have hcth := hide hct
  have hlxh := hide hlx
  clear hct hlx hsd0 hs ho
  by_cases hi1 : i + 1 = n
  · subst hi1
    have hdn : Hid (es.drop (i + 1) = []) := hide (List.eq_nil_of_length_eq_zero (by rw [← hdl.out]; omega))
    have hx1 : Hid (es.eraseIdx i = es.take i) := hide (by rw [← hE.out, hdn.out, List.append_nil])
    go_enter Tryd.func74, Tryd.ntmps74
    go_wp2
    refine wp_region_T (fun _ => True) [] [] [] [0, 1, 2, 3, 4, 5, 6, 7] (by kernel_rfl) (by kernel_rfl) (by kernel_rfl) trivial ?_; simp only [pickL, List.getElem?_cons_succ, List.getElem?_cons_zero]
    go_wp2_with (first
      | ((with_reducible refine wpT_q0 ?_ ?_ ?_ ?_); (focus rfl); (focus rfl); (focus rfl); intro K hK) | ((with_reducible refine wpT_x0 ?_ ?_ ?_); (focus rfl); (focus rfl); intro K hK) | ((with_reducible refine wpT_noL ?_ ?_); (focus (first | exact wanted_no _ _ _ rfl rfl rfl | exact wanted_un _ _ _ rfl rfl rfl)); simp only [setO, List.set_cons_succ, List.set_cons_zero]) | ((with_reducible refine wpT_q1 ?_ ?_ ?_ ?_); (focus exact wanted_yes _ _ _ rfl rfl rfl); (focus rfl); (focus rfl); intro K hK) | ((with_reducible refine wpT_x1 ?_ ?_ ?_); (focus exact wanted_yes _ _ _ rfl rfl rfl); (focus rfl); intro K hK) | ((with_reducible refine wpT_nil ?_); try dsimp only)
      | (refine wpList_plain rfl fun _ hK => wp_clearO encEnt_len (by omega) (z0 := encEnt ent0) (encEnt_one ent0) _ 33 rfl _ 40 Tryd.underlying33 infoEnt zeroEnt rfl g i (i + 1) 1 1 (es.take i) rfl hcth.out.drew (by omega) (by omega) ?_; intro w4 ho4 hb4 hz4; refine hK _ _ ?_)
      | fail)
    go_ret
    exact ⟨rfl, by rw [hx1.out]; exact ho4, ⟨hb4.os, hb4.tape, hb4.output, hb4.size, hb4.block⟩⟩
  · go_enter Tryd.func74, Tryd.ntmps74
    go_wp2
    refine wp_region_T (fun _ => True) [] [] [] [0, 1, 2, 3, 4, 5, 6, 7] (by kernel_rfl) (by kernel_rfl) (by kernel_rfl) trivial ?_; simp only [pickL, List.getElem?_cons_succ, List.getElem?_cons_zero]
    go_wp2_with (first
      | ((first | (with_reducible refine wpT_x0 ?_ ?_ ?_) | (with_reducible refine wpT_xs0 ?_ ?_ ?_)); (focus rfl); (focus rfl); intro K hK; refine wp_appR encEnt_len (by omega) encEnt_one _ _ 33 rfl _ 40 Tryd.underlying33 infoEnt g i n (es.take i) rfl hcth.out.drew lo w.heap.size (some ⟨g, (i + 1) * 5, none⟩) (es.drop (i + 1)) (n - (i + 1)) (n - (i + 1)) rfl hdl.out (show Sl encEnt 5 w.drew lo w.heap.size (some ⟨g, (i + 1) * 5, none⟩) (es.drop (i + 1)) from hsd.out) (by omega) ?_; intro w3 ho3 hb3 hz3; (rw [show i + (n - (i + 1)) = n - 1 by omega] at ho3 ⊢); (rw [hE.out] at ho3); have hK := hK)
      | ((with_reducible refine wpT_q0 ?_ ?_ ?_ ?_); (focus rfl); (focus rfl); (focus rfl); intro K hK) | ((with_reducible refine wpT_x0 ?_ ?_ ?_); (focus rfl); (focus rfl); intro K hK) | ((with_reducible refine wpT_noL ?_ ?_); (focus (first | exact wanted_no _ _ _ rfl rfl rfl | exact wanted_un _ _ _ rfl rfl rfl)); simp only [setO, List.set_cons_succ, List.set_cons_zero]) | ((with_reducible refine wpT_q1 ?_ ?_ ?_ ?_); (focus exact wanted_yes _ _ _ rfl rfl rfl); (focus rfl); (focus rfl); intro K hK) | ((with_reducible refine wpT_x1 ?_ ?_ ?_); (focus exact wanted_yes _ _ _ rfl rfl rfl); (focus rfl); intro K hK) | ((with_reducible refine wpT_nil ?_); try dsimp only)
      | (refine wpList_plain rfl fun _ hK => wp_clearO encEnt_len (by omega) (z0 := encEnt ent0) (encEnt_one ent0) _ 33 rfl _ 40 Tryd.underlying33 infoEnt zeroEnt rfl g (n - 1) n (n - (n - 1)) (n - (n - 1)) (es.eraseIdx i) rfl ho3 (by omega) (by omega) ?_; intro w4 ho4 hb4 hz4; refine hK _ _ ?_)
      | fail)
    go_ret
    have hb3' : Only w.heap.size (some g) w w3 := ⟨hb3.os, hb3.tape, hb3.output, hb3.size, hb3.block⟩
    exact ⟨rfl, ho4, hb3'.trans (hb4.mono (by simp only [World.size_drew] at hz3; omega))⟩
end Go.Proofs.YtajmfonepnkofaaDoor
namespace Go.Proofs.YtajmfonepnkofaaDoor
open Go.RowKit Rg
set_option linter.unusedVariables false
set_option linter.unusedSimpArgs false

/-- A game of the call's own: three rows, apart. -/
structure GmO (w : World) (lo : Nat) (A : Option Addr) (n c : Nat) (B : Option Addr) (p d : Nat) (E : Option Addr) (q f : Nat) (g : GameT) : Prop where
  en : Own encEnt 5 82 w lo (.slice A n c) g.1
  fl : Own encI 1 3 w lo (.slice B p d) g.2.1
  la : Own encI 1 3 w lo (.slice E q f) g.2.2
  ab : ∀ k, (Value.slice A n c).ownBlock = some k → (Value.slice B p d).ownBlock ≠ some k
  ae : ∀ k, (Value.slice A n c).ownBlock = some k → (Value.slice E q f).ownBlock ≠ some k
  be : ∀ k, (Value.slice B p d).ownBlock = some k → (Value.slice E q f).ownBlock ≠ some k
section
variable {w w' : World} {lo : Nat} {A : Option Addr} {n c : Nat} {B : Option Addr} {p d : Nat} {E : Option Addr} {q f : Nat} {g : GameT}
theorem GmO.keep (h : GmO w lo A n c B p d E q f g) (hk : ∀ b, lo ≤ b → b < w.heap.size → w'.heap[b]? = w.heap[b]?) : GmO w' lo A n c B p d E q f g :=
  ⟨h.en.keep (fun b hb => hk b (h.en.lt b hb).1 (h.en.lt b hb).2), h.fl.keep (fun b hb => hk b (h.fl.lt b hb).1 (h.fl.lt b hb).2), h.la.keep (fun b hb => hk b (h.la.lt b hb).1 (h.la.lt b hb).2), h.ab, h.ae, h.be⟩
theorem GmO.below (h : GmO w lo A n c B p d E q f g) (hb : Below w.heap.size w w') : GmO w' lo A n c B p d E q f g := h.keep fun b _ h2 => hb.block b h2
theorem GmO.mono {lo' : Nat} (h : GmO w lo A n c B p d E q f g) (hl : lo' ≤ lo) : GmO w lo' A n c B p d E q f g := ⟨h.en.mono hl, h.fl.mono hl, h.la.mono hl, h.ab, h.ae, h.be⟩
theorem Own.adE {α : Type} {enc : α → List Value} {sz : Nat} {e : TypeId} {xs : List α} (h : Own enc sz e w lo (.slice A n c) xs) : A = none ∧ n = 0 ∧ c = 0 ∨ ∃ b off, A = some ⟨b, off, none⟩ := by
  rcases h with ⟨h1, _⟩ | ⟨g, cap, cur, h1, _⟩
  · injection h1 with e1 e2 e3
    exact .inl ⟨e1, e2, e3⟩
  · injection h1 with e1 e2 e3
    exact .inr ⟨g, 0, e1⟩
theorem GmO.gmD (h : GmO w lo A n c B p d E q f g) : GmD w (fun b => lo ≤ b ∧ b < w.heap.size) A n c B p d E q f g :=
  ⟨h.en.rdD encEnt_len (fun b h h' => ⟨h, h'⟩), h.fl.rdD encI_len (fun b h h' => ⟨h, h'⟩), h.la.rdD encI_len (fun b h h' => ⟨h, h'⟩), h.en.adE⟩
end
set_option maxRecDepth 100000 in
set_option maxHeartbeats 1000000 in
theorem copyOf_c (A : Option Addr) (n c : Nat) (B : Option Addr) (p d : Nat) (E : Option Addr) (q f : Nat) (D : Nat → Prop) (g : GameT) (w : World) (hg : GmD w D A n c B p d E q f g) (hD : ∀ b, D b → b < w.heap.size) (hl : g.1.length ≤ 1000 ∧ g.2.1.length ≤ 1000 ∧ g.2.2.length ≤ 1000) :
    Calls Tryd.prog 43 #[.agg #[.slice A n c, .slice B p d, .slice E q f]] w fun e w' => ∃ A' B' E' : Option Addr, e = .returned (.agg #[.slice A' n n, .slice B' p p, .slice E' q q]) ∧ GmO w' (w.heap.size + 1 + 1) A' n n B' p p E' q q g ∧ Below w.heap.size w w' := by
  have hs2 := Gs.made w (.slice A n c) (.slice B p d) (.slice E q f)
  have hg2 := hide (hg.below hs2.bel hD)
  obtain ⟨xx0, xx1, xx2, xf0, xf1, xf2⟩ := hs2.bx.cells
  obtain ⟨yy0, yy1, yy2, yg0, yg1, yg2⟩ := hs2.ry.cells
  have hz2 := hs2.sz
  have hn0 := hide hg.en.len
  have hn1 := hide hg.fl.len
  have hn2 := hide hg.la.len
  have hn0B := hide hl.1
  have hn1B := hide hl.2.1
  have hn2B := hide hl.2.2
  clear hl hg
  go_enter Tryd.func43, Tryd.ntmps43
  go_wp2
  generalize ((w.alloc (.cells #[.slice A n c, .slice B p d, .slice E q f] 35)).alloc (.cells #[.slice none 0 0, .slice none 0 0, .slice none 0 0] 35)) = w2 at *
  have hlx2 := hs2.bx.lt
  have hly2 := hs2.ry.lt
  refine wp_region_T (SinceB (w.heap.size + 1) _) [35] [] [7, 10] [0, 1, 3, 4, 6, 7, 2, 5, 8, 9, 10] (by kernel_rfl) (by kernel_rfl) (by kernel_rfl) (SinceB.drew _ _) ?_; simp only [pickL, List.getElem?_cons_succ, List.getElem?_cons_zero]
  go_wp2_with (first
    | (go_at_call 69; have hq := hoB; refine (cloneI_c E q f 0 w.heap.size g.2.2 _ hn2.out (by have h1 := hn2.out; have h2 := hn2B.out; omega) ((hg2.out.la.sl hD).below (B := w2.heap.size) (Below.appR (Below.appR (Below.drew (Below.refl _ _)) hbA) hbB) (by omega)) (by have h1 := hbA.size; have h2 := hbB.size; simp only [World.size_drew] at h1; omega)).mono ?_; rintro e wC ⟨E', rfl, hoC, hbC⟩; have hB2C : Below w2.heap.size w2 wC := Below.appR (Below.appR (Below.appR (Below.drew (Below.refl _ _)) hbA) hbB) hbC; have hSBC : SinceB (w.heap.size + 1) w2 wC := (SinceB.refl _ _).below hB2C (by omega); have hsC := hs2.below hB2C hz2; clear yy0 yy1 yy2 yg0 yg1 yg2; obtain ⟨yy0, yy1, yy2, yg0, yg1, yg2⟩ := hsC.ry.cells; have hlyC := hsC.ry.lt; have hK := hK)
    | (go_at_call 69; refine (cloneI_c B p d 0 w.heap.size g.2.1 _ hn1.out (by have h1 := hn1.out; have h2 := hn1B.out; omega) ((hg2.out.fl.sl hD).below (B := w2.heap.size) (Below.appR (Below.drew (Below.refl _ _)) hbA) (by omega)) (by have h1 := hbA.size; simp only [World.size_drew] at h1; omega)).mono ?_; rintro e wB ⟨B', rfl, hoB, hbB⟩; have hSBB : SinceB (w.heap.size + 1) w2 wB := (SinceB.refl _ _).below (Below.appR (Below.appR (Below.drew (Below.refl _ _)) hbA) hbB) (by omega); have hK := hK)
    | (go_at_call 68; refine (cloneEnt_c A n c 0 w.heap.size g.1 _ hn0.out (by have h1 := hn0.out; have h2 := hn0B.out; omega) ((hg2.out.en.sl hD).below (B := w2.heap.size) (Below.drew (Below.refl _ _)) (by omega)) (by simp only [World.size_drew]; omega)).mono ?_; rintro e wA ⟨A', rfl, hoA, hbA⟩; have hSBA : SinceB (w.heap.size + 1) w2 wA := (SinceB.refl _ _).below (Below.appR (Below.drew (Below.refl _ _)) hbA) (by omega); have hK := hK)
    | (with_reducible refine SinceB.and_ ?_ ?_; (focus (repeat (first | (with_reducible exact SinceB.refl _ _) | (with_reducible assumption) | (with_reducible refine SinceB.drewR ?_) | ((with_reducible refine SinceB.alloc ?_ ?_ _); rotate_left; (focus (first | (with_reducible assumption) | (simp; done) | (simp; omega) | omega))) | ((with_reducible refine SinceB.set ?_ ?_ _); rotate_left; (focus (first | omega | (simp; done) | (simp; omega))))))); intro hS) | ((with_reducible refine wpT_noL ?_ ?_); (focus (first | exact wanted_no _ _ _ rfl rfl rfl | exact wanted_un _ _ _ rfl rfl rfl)); simp only [setO, List.set_cons_succ, List.set_cons_zero]) | ((with_reducible refine wpT_q0 ?_ ?_ ?_ ?_); (focus rfl); (focus rfl); (focus rfl); intro K hK) | ((with_reducible refine wpT_i ?_ ?_); (focus (refine ⟨_, _, _, _, _, _, _, _, rfl, rfl, rfl, rfl, rfl, ?_⟩; omega)); intro K hK) | ((with_reducible apply wpT_lB); (focus rfl); (focus rfl); (focus rfl); (focus rfl); (focus (first | exact SinceB.drew _ _ | (with_reducible assumption))); (focus (simp <;> omega)); (focus go_simp); intro K hK) | ((with_reducible apply wpT_lwB); (focus exact wanted_yes _ _ _ rfl rfl rfl); (focus rfl); (focus rfl); (focus rfl); (focus (first | exact SinceB.drew _ _ | (with_reducible assumption))); (focus (simp <;> omega)); (focus go_simp); intro K hK) | ((with_reducible refine wpT_xs0 ?_ ?_ ?_); (focus rfl); (focus rfl); intro K hK) | ((with_reducible refine wpT_q1 ?_ ?_ ?_ ?_); (focus exact wanted_yes _ _ _ rfl rfl rfl); (focus rfl); (focus rfl); intro K hK) | ((with_reducible refine wpT_xs1 ?_ ?_ ?_); (focus exact wanted_yes _ _ _ rfl rfl rfl); (focus rfl); intro K hK) | ((with_reducible refine wpT_nil ?_); try dsimp only)
    | fail)
  have hzA := hbA.size
  have hzB := hbB.size
  have hzC := hbC.size
  simp only [World.size_drew] at hzA
  have hO : GmO wC (w.heap.size + 1 + 1) A' n n B' p p E' q q g := ⟨((hoA.below hbB (Nat.le_refl _)).below hbC (by omega)).mono (by simp only [World.size_drew]; omega), (hoB.below hbC (Nat.le_refl _)).mono (by omega), hoC.mono (by omega),
    fun k h1 h2 => by have := (hoA.lt k h1).2; have := (hoB.lt k h2).1; omega, fun k h1 h2 => by have := (hoA.lt k h1).2; have := (hoC.lt k h2).1; omega, fun k h1 h2 => by have := (hoB.lt k h1).2; have := (hoC.lt k h2).1; omega⟩
  refine bodyPost_ret (v := .agg #[.slice A' n n, .slice B' p p, .slice E' q q]) (by simp [results, Tryd.results43, go_sem, yy0, yy1, yy2, yg0, yg1, yg2]) rfl ⟨A', B', E', rfl, ?_, ?_⟩
  · refine hO.keep (fun b hb hb2 => ?_)
    have hon : Onl w.heap.size (w.heap.size + 1) wC ((((wC.setCell ⟨w.heap.size + 1, 0, none⟩ (.slice A' n n)).setCell ⟨w.heap.size + 1, 1, none⟩ (.slice B' p p)).setCell ⟨w.heap.size + 1, 2, none⟩ (.slice E' q q))) := by (repeat (first | (with_reducible exact Onl.refl _ _ _) | (with_reducible exact Onl.drewL _ _ _) | (with_reducible refine Onl.set ?_ (by simp) _) | with_reducible refine Onl.drew ?_))
    exact hon.blk b (by omega) (by omega)
  · have hon : Onl w.heap.size (w.heap.size + 1) wC ((((wC.setCell ⟨w.heap.size + 1, 0, none⟩ (.slice A' n n)).setCell ⟨w.heap.size + 1, 1, none⟩ (.slice B' p p)).setCell ⟨w.heap.size + 1, 2, none⟩ (.slice E' q q))) := by (repeat (first | (with_reducible exact Onl.refl _ _ _) | (with_reducible exact Onl.drewL _ _ _) | (with_reducible refine Onl.set ?_ (by simp) _) | with_reducible refine Onl.drew ?_))
    have h9 := hon.bel w.heap.size w (Nat.le_refl _) (Nat.le_succ _) hsC.bel
    exact ⟨h9.os, h9.tape, h9.output, h9.size, h9.block⟩
theorem goldS_take {es : List EntT} {k : Nat} (hk : k < es.length) : goldS (es.take (k + 1)) = goldS (es.take k) + es[k].2.2.2.2 := by
  unfold goldS
  rw [List.take_succ_eq_append_getElem hk, List.map_append, List.sum_append]
  simp
theorem sum_take {xs : List Int} {k : Nat} (hk : k < xs.length) : (xs.take (k + 1)).sum = (xs.take k).sum + xs[k] := by
  rw [List.take_succ_eq_append_getElem hk, List.sum_append]
  simp
theorem goldS_le {es : List EntT} (h : ∀ e ∈ es, 0 ≤ e.2.2.2.2) (k : Nat) : 0 ≤ goldS (es.take k) ∧ goldS (es.take k) ≤ goldS es := by
  have h1 : goldS es = goldS (es.take k) + goldS (es.drop k) := by unfold goldS; rw [← List.sum_append, ← List.map_append, List.take_append_drop]
  have h2 : ∀ l : List EntT, (∀ e ∈ l, 0 ≤ e.2.2.2.2) → 0 ≤ goldS l := fun l hl => by
    unfold goldS
    exact (le_sum _ (fun x hx => by obtain ⟨e, he, rfl⟩ := List.mem_map.1 hx; exact hl e he)).1
  have h3 := h2 (es.take k) (fun e he => h e (List.mem_of_mem_take he))
  have h4 := h2 (es.drop k) (fun e he => h e (List.mem_of_mem_drop he))
  omega
theorem sumI_le {xs : List Int} (h : ∀ x ∈ xs, 0 ≤ x) (k : Nat) : 0 ≤ (xs.take k).sum ∧ (xs.take k).sum ≤ xs.sum := by
  have h1 : xs.sum = (xs.take k).sum + (xs.drop k).sum := by rw [← List.sum_append, List.take_append_drop]
  have h3 := (le_sum (xs.take k) (fun e he => h e (List.mem_of_mem_take he))).1
  have h4 := (le_sum (xs.drop k) (fun e he => h e (List.mem_of_mem_drop he))).1
  omega
/-- The client of the figure before, or 0. -/
def lastC (es : List EntT) (k : Nat) : Int := if k = 0 then 0 else (es.getD (k - 1) ent0).1
theorem lastC_lt {es : List EntT} (h : (es.map (·.1)).Pairwise (· < ·)) (h2 : ∀ e ∈ es, rng e.1 1 4) {k : Nat} (hk : k < es.length) : 0 ≤ lastC es k ∧ lastC es k < es[k].1 ∧ es[k].1 ≤ 4 := by
  have h3 := h2 _ (List.getElem_mem hk)
  unfold rng at h3
  unfold lastC
  split
  · exact ⟨by omega, by omega, by omega⟩
  · have hk1 : k - 1 < es.length := by omega
    rw [getD_at hk1]
    have h4 := h2 _ (List.getElem_mem hk1)
    unfold rng at h4
    have h5 := List.pairwise_iff_getElem.1 h (k - 1) k (by simpa using hk1) (by simpa using hk) (by omega)
    simp only [List.getElem_map] at h5
    exact ⟨by omega, h5, by omega⟩

theorem badNum1_c (x : Int) (w : World) : Calls Tryd.prog 57 #[.int .i64 x] w fun e w' => e = .returned (.bool (!inB x 0 30)) ∧ Below w.heap.size w w' := by
  go_enter Tryd.func57, Tryd.ntmps57
  go_wp2_with (go_at_call 54; refine (in_c _ _ _ _).mono ?_; rintro e _ ⟨rfl, rfl⟩)
  go_ret
  exact ⟨rfl, Below.refl _ _⟩
set_option maxRecDepth 100000 in
set_option maxHeartbeats 1000000 in
theorem GameOk_c (A : Option Addr) (n c : Nat) (B : Option Addr) (p d : Nat) (E : Option Addr) (q f : Nat) (D : Nat → Prop) (g : GameT) (w : World) (hg : GmD w D A n c B p d E q f g) (hD : ∀ b, D b → b < w.heap.size) (hok : okG g) :
    Calls Tryd.prog 30 #[.agg #[.slice A n c, .slice B p d, .slice E q f]] w fun e w' => e = .returned (.bool true) ∧ Below w.heap.size w w' := by
  have hA0 := (Below.refl w.heap.size w).alloc (Nat.le_refl _) (.cells #[.slice A n c, .slice B p d, .slice E q f] 35)
  have hx0 := Bx3.made w (.slice A n c) (.slice B p d) (.slice E q f) 35
  have hx0h := hide hx0
  have hgh := hide hg
  have hokh := hide hok
  have hn' := hide hg.en.len
  have hp' : Hid (p = 16) := hide (by have h1 := hg.fl.len; have h2 := hok.n16; omega)
  have hq' : Hid (q = 4) := hide (by have h1 := hg.la.len; have h2 := hok.n4; omega)
  have hn4 : n ≤ 4 := by
    have h3 := inc_len hok.inc (fun e he => (hok.ent e he).1)
    have := hn'.out
    omega
  obtain rfl := hp'.out
  obtain rfl := hq'.out
  clear hx0 hp' hq' hg hok
  go_enter Tryd.func30, Tryd.ntmps30
  go_wp2
  generalize w.alloc (.cells #[.slice A n c, .slice B 16 d, .slice E 4 f] 35) = w1 at *
  go_loopw [12, 3, 4] (fun i l s wr => ∃ k : Nat, k ≤ n ∧ i = .int .i64 (k : Int) ∧ l = .int .i64 (lastC g.1 k) ∧ s = .int .i64 (goldS (g.1.take k)) ∧ Below w1.heap.size w1 wr) (fun i _ _ _ => n - (intOf i).toNat)
  case atStart => exact ⟨0, Nat.zero_le _, rfl, rfl, rfl, Below.refl _ _⟩
  case round =>
    obtain ⟨k, hk, rfl, rfl, rfl, hbr⟩ := hrel
    have hz1 := hA0.size
    have hzr := hbr.size
    have hgr := (hgh.out.below hA0 hD).below hbr (fun b hb => by have := hD b hb; omega)
    have hxr := hx0h.out.below hbr hx0h.out.lt
    obtain ⟨xx0, xx1, xx2, -, -, -⟩ := hxr.cells
    have hlxr := hxr.lt
    by_cases hlt : k < n
    · have hlx : k < g.1.length := by have := hn'.out; omega
      obtain ⟨b, off, rfl, hDb⟩ := hgr.en.addr hlx
      obtain ⟨a0, a1, a2, a3, a4⟩ := hgr.en.ent hlx
      have hbw := hD b hDb
      have hbr' : b < wr.heap.size := by omega
      obtain ⟨hl0, hl1, hl2⟩ := lastC_lt hokh.out.inc (fun e he => (hokh.out.ent e he).1) hlx
      have hent := hokh.out.ent _ (List.getElem_mem hlx)
      unfold entOk rng at hent
      have hgo := goldS_le (es := g.1) (fun e he => (hokh.out.ent e he).2.2.2.2.1) k
      have hgs : goldS g.1 ≤ 20 := by
        have h1 := hokh.out.sum
        have h2 := (le_sum g.2.1 (fun x hx => (hokh.out.flo x hx).1)).1
        omega
      have hnext := hide (goldS_take hlx)
      have hlastn := hide (show lastC g.1 (k + 1) = g.1[k].1 by unfold lastC; rw [if_neg (by omega), Nat.add_sub_cancel, getD_at hlx])
      have i1 : inB g.1[k].1 (lastC g.1 k + 1) 4 = true := by simp [inB]; omega
      have i2 : (inB g.1[k].2.1 0 3 && inB g.1[k].2.2.1 0 3) = true := by simp [inB]; omega
      have i3 : inB g.1[k].2.2.2.1 0 3 = true := by simp [inB]; omega
      have i4 : inB g.1[k].2.2.2.2 0 20 = true := by simp [inB]; omega
      clear hgr
      generalize lastC g.1 k = lc at *
      generalize goldS (g.1.take k) = gs at *
      go_wp2_with (first
        | (go_at_call 54; refine (in_c _ _ _ _).mono ?_; rintro e _ ⟨rfl, rfl⟩; simp only [i1, i3, i4])
        | (go_at_call 55; refine (onBoard_c _ _ _).mono ?_; rintro e _ ⟨rfl, rfl⟩; simp only [i2])
        | fail)
      go_roundw
      case rel => exact ⟨k + 1, by omega, by go_num, by rw [hlastn.out], by rw [hnext.out], hbr.trans ((Below.refl _ _).alloc (by omega) _)⟩
      case measure => simp [intOf]; omega
    · obtain rfl : k = n := by omega
      have htk : Hid (g.1.take k = g.1) := hide (List.take_of_length_le (by have := hn'.out; omega))
      have hgo := goldS_le (es := g.1) (fun e he => (hokh.out.ent e he).2.2.2.2.1) k
      have hgs : goldS g.1 ≤ 20 := by
        have h1 := hokh.out.sum
        have h2 := (le_sum g.2.1 (fun x hx => (hokh.out.flo x hx).1)).1
        omega
      rw [htk.out] at hgo
      go_wp2
      generalize wr = v1 at *
      go_loopw [52, 4] (fun i s ws => ∃ j : Nat, j ≤ 16 ∧ i = .int .i64 (j : Int) ∧ s = .int .i64 (goldS (g.1.take k) + (g.2.1.take j).sum) ∧ Below v1.heap.size v1 ws) (fun i _ _ => 16 - (intOf i).toNat)
      case atStart => exact ⟨0, Nat.zero_le _, rfl, by simp, Below.refl _ _⟩
      case round =>
        obtain ⟨j, hj, rfl, rfl, hbs⟩ := hrel
        have hzs := hbs.size
        have hgs2 := hgr.below hbs (fun b hb => by have := hD b hb; omega)
        have hxs := hxr.below hbs hlxr
        clear xx0 xx1 xx2
        obtain ⟨xx0, xx1, xx2, -, -, -⟩ := hxs.cells
        have hlxs := hxs.lt
        have hsm := sumI_le (fun x hx => (hokh.out.flo x hx).1) j
        have hs20 := hokh.out.sum
        by_cases hlt2 : j < 16
        · have hjx : j < g.2.1.length := by have := hokh.out.n16; omega
          obtain ⟨bB, offB, rfl, hDb⟩ := hgs2.fl.addr hjx
          have a0 := hgs2.fl.i64 hjx
          have hbw := hD bB hDb
          have hbr' : bB < wr.heap.size := by omega
          have hfl := hokh.out.flo _ (List.getElem_mem hjx)
          unfold rng at hfl
          have hnext := hide (sum_take hjx)
          have i1 : inB g.2.1[j] 0 20 = true := by simp [inB]; omega
          have hall := hide hs20
          have hjb : (g.2.1.take j).sum ≤ 20 := by omega
          have hgb : 0 ≤ goldS (g.1.take k) ∧ goldS (g.1.take k) ≤ 20 := by rw [htk.out]; omega
          clear hgs2 hs20
          generalize (g.2.1.take j).sum = gj at *
          generalize goldS (g.1.take k) = gs at *
          have hgo' := hide hgo
          go_wp2_with (first
            | (go_at_call 54; refine (in_c _ _ _ _).mono ?_; rintro e _ ⟨rfl, rfl⟩; simp only [i1])
            | fail)
          go_roundw
          case rel => exact ⟨j + 1, by omega, by go_num, by rw [hnext.out]; congr 1; omega, hbs⟩
          case measure => simp [intOf]; omega
        · obtain rfl : j = 16 := by omega
          have hfull : Hid (goldS (g.1.take k) + (g.2.1.take 16).sum = 20) := hide (by rw [htk.out, List.take_of_length_le (by rw [hokh.out.n16]; omega)]; exact hs20)
          have h20 : (goldS (g.1.take k) + (g.2.1.take 16).sum == 20) = true := by rw [hfull.out]; rfl
          have hno : Hid (g.2.2.any (fun x => !inB x 0 30) = false) := hide (by
            rw [List.any_eq_false]
            intro x hx
            have h1 := hokh.out.las x hx
            unfold rng at h1
            simp [inB]
            omega)
          have hlaN := hide (hgs2.la.rdn encI_len hD)
          generalize goldS (g.1.take k) + (g.2.1.take 16).sum = tot at *
          have hDH := hide hgs2
          clear hgs2 hs20
          go_wp2_with fail
          refine (contains_badNum E 4 f 0 w.heap.size g.2.2 (fun x => !inB x 0 30) wr hlaN.out (by omega) (fun j hj W hB => badNum1_c _ W)).mono ?_
          rintro e w9 ⟨rfl, hb9⟩
          rw [hno.out]
          go_wp2
          go_ret
          exact ⟨rfl, hA0.trans ((hbr.mono hz1).trans ((hbs.mono (by omega)).trans (hb9.mono (by omega))))⟩
end Go.Proofs.YtajmfonepnkofaaDoor
namespace Go.Proofs.YtajmfonepnkofaaDoor
open Go.RowKit Rg
set_option linter.unusedVariables false
set_option linter.unusedSimpArgs false

/-- Whether a game is ok. -/
noncomputable def okB (g : GameT) : Bool := @decide (okG g) (Classical.propDecidable _)
theorem okB_iff (g : GameT) : okB g = true ↔ okG g := by unfold okB; exact @decide_eq_true_iff _ (Classical.propDecidable _)
theorem okB_false {g : GameT} (h : ¬ okG g) : okB g = false := by
  cases e : okB g
  · rfl
  · exact absurd ((okB_iff g).1 e) h
theorem okB_true {g : GameT} (h : okG g) : okB g = true := (okB_iff g).2 h
/-- The first 'k' figures are ok, and in order. -/
def preE (es : List EntT) (k : Nat) : Prop := ∀ j (h : j < es.length), j < k → entOk es[j] ∧ lastC es j < es[j].1
theorem preE.zero (es : List EntT) : preE es 0 := fun j _ h => absurd h (by omega)
theorem preE.succ {es : List EntT} {k : Nat} (h : preE es k) (hk : k < es.length) (h1 : entOk es[k]) (h2 : lastC es k < es[k].1) : preE es (k + 1) := fun j hj hjk => by
  by_cases e : j < k
  · exact h j hj e
  · obtain rfl : j = k := by omega
    exact ⟨h1, h2⟩
theorem lastC_succ {es : List EntT} {k : Nat} (hk : k < es.length) : lastC es (k + 1) = es[k].1 := by unfold lastC; rw [if_neg (by omega), Nat.add_sub_cancel, getD_at hk]
theorem preE.last {es : List EntT} {k : Nat} (h : preE es k) (hk : k ≤ es.length) : 0 ≤ lastC es k ∧ lastC es k ≤ 4 := by
  cases k with
  | zero => unfold lastC; simp
  | succ j =>
    have := (h j (by omega) (by omega)).1.1
    unfold rng at this
    rw [lastC_succ (by omega)]
    omega
theorem preE.gold {es : List EntT} : ∀ {k : Nat}, preE es k → k ≤ es.length → 0 ≤ goldS (es.take k) ∧ goldS (es.take k) ≤ 20 * (k : Int)
  | 0, _, _ => by simp [goldS]
  | k + 1, h, hk => by
    have ih := preE.gold (k := k) (fun j hj hjk => h j hj (by omega)) (by omega)
    have he := (h k (by omega) (by omega)).1.2.2.2.2
    unfold rng at he
    rw [goldS_take (by omega)]
    omega
theorem preE.inc {es : List EntT} (h : preE es es.length) : (es.map (·.1)).Pairwise (· < ·) := by
  rw [List.pairwise_iff_getElem]
  intro i j hi hj hij
  simp only [List.getElem_map]
  simp only [List.length_map] at hi hj
  induction j with
  | zero => omega
  | succ j ih =>
    have h1 := (h (j + 1) hj hj).2
    rw [lastC_succ (by omega)] at h1
    by_cases e : i = j
    · subst e; exact h1
    · exact Int.lt_trans (ih (by simpa using (show j < es.length by omega)) (by omega) (by omega)) h1
theorem okG.preE {g : GameT} (h : okG g) (k : Nat) : preE g.1 k := fun j hj _ => ⟨h.ent _ (List.getElem_mem hj), (lastC_lt h.inc (fun e he => (h.ent e he).1) hj).2.1⟩
theorem ok_not {g : GameT} {k : Nat} (hk : k < g.1.length) (h : ¬ (entOk g.1[k] ∧ lastC g.1 k < g.1[k].1)) : okB g = false := okB_false fun hg => h (hg.preE (k + 1) k hk (by omega))
def preF (xs : List Int) (k : Nat) : Prop := ∀ j (h : j < xs.length), j < k → rng xs[j] 0 20
theorem preF.succ {xs : List Int} {k : Nat} (h : preF xs k) (hk : k < xs.length) (h1 : rng xs[k] 0 20) : preF xs (k + 1) := fun j hj hjk => by
  by_cases e : j < k
  · exact h j hj e
  · obtain rfl : j = k := by omega
    exact h1
theorem preF.sum {xs : List Int} : ∀ {k : Nat}, preF xs k → k ≤ xs.length → 0 ≤ (xs.take k).sum ∧ (xs.take k).sum ≤ 20 * (k : Int)
  | 0, _, _ => by simp
  | k + 1, h, hk => by
    have ih := preF.sum (k := k) (fun j hj hjk => h j hj (by omega)) (by omega)
    have he := h k (by omega) (by omega)
    unfold rng at he
    rw [sum_take (by omega)]
    omega
theorem ok_flo {g : GameT} {k : Nat} (hk : k < g.2.1.length) (h : ¬ rng g.2.1[k] 0 20) : okB g = false := okB_false fun hg => h (hg.flo _ (List.getElem_mem hk))
theorem ok_all {g : GameT} (h1 : Go.Proofs.YtajmfonepnkofaaDoor.preE g.1 g.1.length) (h2 : preF g.2.1 g.2.1.length) (h3 : ∀ x ∈ g.2.2, rng x 0 30) (h4 : g.2.1.length = 16) (h5 : g.2.2.length = 4) (h6 : goldS g.1 + g.2.1.sum = 20) : okG g :=
  ⟨fun e he => by obtain ⟨j, hj, rfl⟩ := List.mem_iff_getElem.1 he; exact (h1 j hj hj).1, h1.inc, fun x hx => by obtain ⟨j, hj, rfl⟩ := List.mem_iff_getElem.1 hx; exact h2 j hj hj, h3, h4, h5, h6⟩
theorem inB_no {n lo hi : Int} (h : inB n lo hi = false) : ¬ (lo ≤ n ∧ n ≤ hi) := by unfold inB at h; exact of_decide_eq_false h
theorem inB_yes {n lo hi : Int} (h : inB n lo hi = true) : lo ≤ n ∧ n ≤ hi := by unfold inB at h; exact of_decide_eq_true h
set_option maxRecDepth 100000 in
set_option maxHeartbeats 4000000 in
theorem GameOkA_c (A : Option Addr) (n c : Nat) (B : Option Addr) (p d : Nat) (E : Option Addr) (q f : Nat) (D : Nat → Prop) (g : GameT) (w : World) (hg : GmD w D A n c B p d E q f g) (hD : ∀ b, D b → b < w.heap.size) (hbn : n ≤ 1048576) (hbp : p ≤ 1048576) (hbq : q ≤ 1048576) :
    Calls Tryd.prog 30 #[.agg #[.slice A n c, .slice B p d, .slice E q f]] w fun e w' => e = .returned (.bool (okB g)) ∧ Below w.heap.size w w' := by
  have hA0 := (Below.refl w.heap.size w).alloc (Nat.le_refl _) (.cells #[.slice A n c, .slice B p d, .slice E q f] 35)
  have hx0 := Bx3.made w (.slice A n c) (.slice B p d) (.slice E q f) 35
  have hx0h := hide hx0
  have hgh := hide hg
  have hn' := hide hg.en.len
  have hp' := hide hg.fl.len
  have hq' := hide hg.la.len
  clear hx0 hg
  go_enter Tryd.func30, Tryd.ntmps30
  go_wp2
  generalize w.alloc (.cells #[.slice A n c, .slice B p d, .slice E q f] 35) = w1 at *
  go_loopw [12, 3, 4] (fun i l s wr => ∃ (k : Nat) (lc gs : Int), k ≤ n ∧ i = .int .i64 (k : Int) ∧ l = .int .i64 lc ∧ s = .int .i64 gs ∧ Hid (lastC g.1 k = lc) ∧ Hid (goldS (g.1.take k) = gs) ∧ Hid (preE g.1 k) ∧ Below w1.heap.size w1 wr) (fun i _ _ _ => n - (intOf i).toNat)
  case atStart => exact ⟨0, 0, 0, Nat.zero_le _, rfl, rfl, rfl, hide rfl, hide rfl, hide (preE.zero _), Below.refl _ _⟩
  case round =>
    obtain ⟨k, lc, gs, hk, rfl, rfl, rfl, hlch, hgsh, hpre, hbr⟩ := hrel
    have hz1 := hA0.size
    have hzr := hbr.size
    have hgr := (hgh.out.below hA0 hD).below hbr (fun b hb => by have := hD b hb; omega)
    have hxr := hx0h.out.below hbr hx0h.out.lt
    obtain ⟨xx0, xx1, xx2, -, -, -⟩ := hxr.cells
    have hlxr := hxr.lt
    have hlcb : 0 ≤ lc ∧ lc ≤ 4 := by have := hpre.out.last (by have := hn'.out; omega); rw [hlch.out] at this; exact this
    have hgsb : 0 ≤ gs ∧ gs ≤ 20 * (k : Int) := by have := hpre.out.gold (by have := hn'.out; omega); rw [hgsh.out] at this; exact this
    by_cases hlt : k < n
    · have hlx : k < g.1.length := by have := hn'.out; omega
      obtain ⟨b, off, rfl, hDb⟩ := hgr.en.addr hlx
      obtain ⟨a0, a1, a2, a3, a4⟩ := hgr.en.ent hlx
      have hbw := hD b hDb
      have hbr' : b < wr.heap.size := by omega
      have hw64 : Hid (goldS (g.1.take (k + 1)) = gs + g.1[k].2.2.2.2) := hide (by rw [goldS_take hlx, hgsh.out])
      clear hgr
      cases i1 : inB g.1[k].1 (lc + 1) 4
      · have i1n := inB_no i1
        have hres := hide (ok_not hlx (g := g) (by
          rintro ⟨⟨t1, t2, t3, t4, t5⟩, t6⟩
          unfold rng at t1 t2 t3 t4 t5
          rw [hlch.out] at t6
          omega))
        go_wp2_with (first
          | (go_at_call 54; refine (in_c _ _ _ _).mono ?_; rintro e _ ⟨rfl, rfl⟩; (try simp only [i1]))
          | (go_at_call 55; refine (onBoard_c _ _ _).mono ?_; rintro e _ ⟨rfl, rfl⟩; (try simp only [i1]))
          | fail)
        go_ret
        exact ⟨by rw [hres.out]; rfl, hA0.trans ((hbr.mono hz1).trans ((Below.refl _ _).alloc (by omega) _))⟩
      · have i1y := inB_yes i1
        cases i2 : inB g.1[k].2.1 0 3 && inB g.1[k].2.2.1 0 3
        · have i2n : ¬ ((0 ≤ g.1[k].2.1 ∧ g.1[k].2.1 ≤ 3) ∧ (0 ≤ g.1[k].2.2.1 ∧ g.1[k].2.2.1 ≤ 3)) := fun h => by unfold inB at i2; simp only [decide_eq_true h.1, decide_eq_true h.2] at i2; cases i2
          have hres := hide (ok_not hlx (g := g) (by
            rintro ⟨⟨t1, t2, t3, t4, t5⟩, t6⟩
            unfold rng at t1 t2 t3 t4 t5
            rw [hlch.out] at t6
            exact i2n ⟨t2, t3⟩))
          go_wp2_with (first
            | (go_at_call 54; refine (in_c _ _ _ _).mono ?_; rintro e _ ⟨rfl, rfl⟩; (try simp only [i1, i2]))
            | (go_at_call 55; refine (onBoard_c _ _ _).mono ?_; rintro e _ ⟨rfl, rfl⟩; (try simp only [i1, i2]))
            | fail)
          go_ret
          exact ⟨by rw [hres.out]; rfl, hA0.trans ((hbr.mono hz1).trans ((Below.refl _ _).alloc (by omega) _))⟩
        · have i2y := (Bool.and_eq_true _ _).mp i2
          have i21 := inB_yes i2y.1
          have i22 := inB_yes i2y.2
          clear i2y
          cases i3 : inB g.1[k].2.2.2.1 0 3
          · have i3n := inB_no i3
            have hres := hide (ok_not hlx (g := g) (by
              rintro ⟨⟨t1, t2, t3, t4, t5⟩, t6⟩
              unfold rng at t1 t2 t3 t4 t5
              rw [hlch.out] at t6
              omega))
            go_wp2_with (first
              | (go_at_call 54; refine (in_c _ _ _ _).mono ?_; rintro e _ ⟨rfl, rfl⟩; (try simp only [i1, i2, i3]))
              | (go_at_call 55; refine (onBoard_c _ _ _).mono ?_; rintro e _ ⟨rfl, rfl⟩; (try simp only [i1, i2, i3]))
              | fail)
            go_ret
            exact ⟨by rw [hres.out]; rfl, hA0.trans ((hbr.mono hz1).trans ((Below.refl _ _).alloc (by omega) _))⟩
          · have i3y := inB_yes i3
            cases i4 : inB g.1[k].2.2.2.2 0 20
            · have i4n := inB_no i4
              have hres := hide (ok_not hlx (g := g) (by
                rintro ⟨⟨t1, t2, t3, t4, t5⟩, t6⟩
                unfold rng at t1 t2 t3 t4 t5
                rw [hlch.out] at t6
                omega))
              go_wp2_with (first
                | (go_at_call 54; refine (in_c _ _ _ _).mono ?_; rintro e _ ⟨rfl, rfl⟩; (try simp only [i1, i2, i3, i4]))
                | (go_at_call 55; refine (onBoard_c _ _ _).mono ?_; rintro e _ ⟨rfl, rfl⟩; (try simp only [i1, i2, i3, i4]))
                | fail)
              go_ret
              exact ⟨by rw [hres.out]; rfl, hA0.trans ((hbr.mono hz1).trans ((Below.refl _ _).alloc (by omega) _))⟩
            · have i4y := inB_yes i4
              have hpre' := hide (hpre.out.succ hlx ⟨by unfold rng; omega, i21, i22, i3y, i4y⟩ (by rw [hlch.out]; omega))
              have hlast' := hide (lastC_succ (es := g.1) hlx)
              go_wp2_with (first
                | (go_at_call 54; refine (in_c _ _ _ _).mono ?_; rintro e _ ⟨rfl, rfl⟩; (try simp only [i1, i2, i3, i4]))
                | (go_at_call 55; refine (onBoard_c _ _ _).mono ?_; rintro e _ ⟨rfl, rfl⟩; (try simp only [i1, i2, i3, i4]))
                | fail)
              go_roundw
              case rel => exact ⟨k + 1, _, _, by omega, by go_num, rfl, rfl, hlast', hw64, hpre', hbr.trans ((Below.refl _ _).alloc (by omega) _)⟩
              case measure => simp [intOf]; omega
    · obtain rfl : k = n := by omega
      have hpreN := hide (show preE g.1 g.1.length from by rw [← hn'.out]; exact hpre.out)
      have hgsN : Hid (goldS g.1 = gs) := hide (by rw [← hgsh.out, List.take_of_length_le (by have := hn'.out; omega)])
      go_wp2
      generalize wr = v1 at *
      go_loopw [52, 4] (fun i s ws => ∃ (j : Nat) (fs : Int), j ≤ p ∧ i = .int .i64 (j : Int) ∧ s = .int .i64 (gs + fs) ∧ Hid ((g.2.1.take j).sum = fs) ∧ Hid (preF g.2.1 j) ∧ Below v1.heap.size v1 ws) (fun i _ _ => p - (intOf i).toNat)
      case atStart => exact ⟨0, 0, Nat.zero_le _, rfl, by simp, hide rfl, hide (fun j _ h => absurd h (by omega)), Below.refl _ _⟩
      case round =>
        obtain ⟨j, fs, hj, rfl, rfl, hfsh, hpf, hbs⟩ := hrel
        have hzs := hbs.size
        have hgs2 := hgr.below hbs (fun b hb => by have := hD b hb; omega)
        have hxs := hxr.below hbs hlxr
        clear xx0 xx1 xx2
        obtain ⟨xx0, xx1, xx2, -, -, -⟩ := hxs.cells
        have hlxs := hxs.lt
        have hfsb : 0 ≤ fs ∧ fs ≤ 20 * (j : Int) := by have := hpf.out.sum (by have := hp'.out; omega); rw [hfsh.out] at this; exact this
        have hBs := hA0.trans ((hbr.mono hz1).trans (hbs.mono (by omega)))
        by_cases hlt2 : j < p
        · have hjx : j < g.2.1.length := by have := hp'.out; omega
          obtain ⟨bB, offB, rfl, hDb⟩ := hgs2.fl.addr hjx
          have a0 := hgs2.fl.i64 hjx
          have hbw := hD bB hDb
          have hbr' : bB < wr.heap.size := by omega
          have hnext : Hid ((g.2.1.take (j + 1)).sum = fs + g.2.1[j]) := hide (by rw [sum_take hjx, hfsh.out])
          clear hgs2
          cases i1 : inB g.2.1[j] 0 20
          · have hres := hide (ok_flo hjx (g := g) (fun h => inB_no i1 h))
            go_wp2_with (first
              | (go_at_call 54; refine (in_c _ _ _ _).mono ?_; rintro e _ ⟨rfl, rfl⟩; (try simp only [i1]))
              | fail)
            go_ret
            exact ⟨by rw [hres.out]; rfl, hBs⟩
          · have i1y := inB_yes i1
            have hpf' := hide (hpf.out.succ hjx i1y)
            go_wp2_with (first
              | (go_at_call 54; refine (in_c _ _ _ _).mono ?_; rintro e _ ⟨rfl, rfl⟩; (try simp only [i1]))
              | fail)
            go_roundw
            case rel => exact ⟨j + 1, _, by omega, by go_num, by congr 1; omega, hnext, hpf', hbs⟩
            case measure => simp [intOf]; omega
        · obtain rfl : j = p := by omega
          have hpfN := hide (show preF g.2.1 g.2.1.length from by rw [← hp'.out]; exact hpf.out)
          have hfsN : Hid (g.2.1.sum = fs) := hide (by rw [← hfsh.out, List.take_of_length_le (by have := hp'.out; omega)])
          have hlaN := hide (hgs2.la.rdn encI_len hD)
          clear hgs2
          by_cases h16 : j = 16
          · by_cases h4 : q = 4
            · subst h4
              subst h16
              cases h20 : (gs + fs == 20)
              · have hres := hide (show okB g = false from okB_false fun hg => by
                  have := hg.sum
                  rw [hgsN.out, hfsN.out] at this
                  rw [this] at h20
                  cases h20)
                go_wp2
                go_ret
                exact ⟨by rw [hres.out]; rfl, hBs⟩
              · have h20' : Hid (gs + fs = 20) := hide (by simpa using h20)
                go_wp2_with fail
                refine (contains_badNum E 4 f 0 w.heap.size g.2.2 (fun x => !inB x 0 30) wr hlaN.out (by omega) (fun j hj W hB => badNum1_c _ W)).mono ?_
                rintro e w9 ⟨rfl, hb9⟩
                have hB9 := hBs.trans (hb9.mono (by omega))
                cases hno : g.2.2.any (fun x => !inB x 0 30)
                · have hres := hide (show okB g = true from okB_true (ok_all hpreN.out hpfN.out (fun x hx => by
                    have := List.any_eq_false.1 hno x hx
                    simp [inB] at this
                    exact this) hp'.out.symm hq'.out.symm (by rw [hgsN.out, hfsN.out]; exact h20'.out)))
                  go_wp2
                  go_ret
                  exact ⟨by rw [hres.out]; rfl, hB9⟩
                · have hres := hide (show okB g = false from okB_false fun hg => by
                    obtain ⟨x, hx, h⟩ := List.any_eq_true.1 hno
                    have := hg.las x hx
                    unfold rng at this
                    simp [inB] at h
                    omega)
                  go_wp2
                  go_ret
                  exact ⟨by rw [hres.out]; rfl, hB9⟩
            · have hres := hide (show okB g = false from okB_false fun hg => h4 (by rw [hq'.out]; exact hg.n4))
              have e1 : ((q : Int) == 4) = false := by simp; omega
              have e2 : decide ((q : Int) = 4) = false := decide_eq_false (by omega)
              have e3 : ¬ ((q : Int) = 4) := by omega
              subst h16
              go_wp2
              go_ret
              exact ⟨by rw [hres.out]; rfl, hBs⟩
          · have hres := hide (show okB g = false from okB_false fun hg => h16 (by rw [hp'.out]; exact hg.n16))
            have e1 : ((j : Int) == 16) = false := by simp; omega
            have e2 : decide ((j : Int) = 16) = false := decide_eq_false (by omega)
            have e3 : ¬ ((j : Int) = 16) := by omega
            go_wp2
            go_ret
            exact ⟨by rw [hres.out]; rfl, hBs⟩
end Go.Proofs.YtajmfonepnkofaaDoor
namespace Go.Proofs.YtajmfonepnkofaaDoor
open Go.RowKit Rg
set_option linter.unusedVariables false
set_option linter.unusedSimpArgs false

theorem cell_any {w : World} {a : Addr} {k : Int} (h : w.cell? a = some (.int .i64 k)) (p : Addr) (v : Int) : ∃ k' : Int, (w.setCell p (.int .i64 v)).cell? a = some (.int .i64 k') := by
  by_cases e : p = a
  · subst e; exact ⟨v, World.cell?_setCell_same w p _ h⟩
  · exact ⟨k, (World.cell?_setCell_other w p a _ e).trans h⟩
/-- What a draw of a game that is ok leaves: its rows are owned. -/
def DrO (w : World) (g P : Nat) (e : Ending) (w' : World) : Prop := ∃ (g0 n c0 g1 p d1 g2 q f2 : Nat) (gm : GameT), e = .returned (.agg #[.slice (some ⟨g0, 0, none⟩) n c0, .slice (some ⟨g1, 0, none⟩) p d1, .slice (some ⟨g2, 0, none⟩) q f2]) ∧ Own encEnt 5 82 w' w.heap.size (.slice (some ⟨g0, 0, none⟩) n c0) gm.1 ∧ Own encI 1 3 w' w.heap.size (.slice (some ⟨g1, 0, none⟩) p d1) gm.2.1 ∧ Own encI 1 3 w' w.heap.size (.slice (some ⟨g2, 0, none⟩) q f2) gm.2.2 ∧ okG gm ∧ Rd w' g P ∧ Only w.heap.size (some g) w w'
/-- What a draw of a game leaves. -/
def DrG (w : World) (g P : Nat) (Q : GameT → Prop) (e : Ending) (w' : World) : Prop := ∃ (A : Option Addr) (n c : Nat) (B : Option Addr) (p d : Nat) (E : Option Addr) (q f : Nat) (gm : GameT), e = .returned (.agg #[.slice A n c, .slice B p d, .slice E q f]) ∧ GmD w' (fun b => w.heap.size ≤ b ∧ b < w'.heap.size) A n c B p d E q f gm ∧ (gm.1.length ≤ 1000 ∧ gm.2.1.length ≤ 1000 ∧ gm.2.2.length ≤ 1000) ∧ Q gm ∧ Rd w' g P ∧ Only w.heap.size (some g) w w'
/-- An integer written anywhere: a list of rows of integers still reads as some list, as long. -/
theorem rd_any {α : Type} {enc : α → List Value} {sz : Nat} {w : World} {D : Nat → Prop} {A : Option Addr} {n c : Nat} {xs : List α} (hl : ∀ x, (enc x).length = sz) (hi : ∀ x, ∀ u ∈ enc x, ∃ k : Int, u = .int .i64 k) (hmk : ∀ us : List Value, us.length = sz → (∀ u ∈ us, ∃ k : Int, u = .int .i64 k) → ∃ x, enc x = us)
    (h : RdD enc sz w D A n c xs) (p : Addr) (v : Int) : ∃ ys : List α, ys.length = xs.length ∧ RdD enc sz (w.setCell p (.int .i64 v)) D A n c ys := by
  by_cases hx : xs = []
  · subst hx
    exact ⟨[], rfl, ⟨h.len, h.cap, h.max, fun hne => absurd rfl hne⟩⟩
  · obtain ⟨b, off, rfl, hb, hc⟩ := h.row hx
    have key : ∀ i (hi' : i < xs.length), ∃ y, ∀ (j : Nat) (u : Value), (enc y)[j]? = some u → (w.setCell p (.int .i64 v)).cell? ⟨b, off + i * sz + j, none⟩ = some u := by
      intro i hi'
      have cell : ∀ j, j < sz → ∃ k : Int, (w.setCell p (.int .i64 v)).cell? ⟨b, off + i * sz + j, none⟩ = some (.int .i64 k) := by
        intro j hj
        have hju : (enc xs[i])[j]? = some ((enc xs[i])[j]'(by rw [hl]; exact hj)) := List.getElem?_eq_getElem _
        obtain ⟨k, hk⟩ := hi _ _ (List.getElem_mem (by rw [hl]; exact hj : j < (enc xs[i]).length))
        have h1 := hc i xs[i] (List.getElem?_eq_getElem hi') j _ hju
        rw [hk] at h1
        exact cell_any h1 p v
      obtain ⟨us, hus, hcell⟩ : ∃ us : List Value, us.length = sz ∧ ∀ j (hj : j < us.length), (∃ k : Int, us[j] = .int .i64 k) ∧ (w.setCell p (.int .i64 v)).cell? ⟨b, off + i * sz + j, none⟩ = some us[j] := by
        refine ⟨List.ofFn (fun j : Fin sz => .int .i64 (cell j.1 j.2).choose), by simp, fun j hj => ?_⟩
        simp only [List.length_ofFn] at hj
        simp only [List.getElem_ofFn]
        exact ⟨⟨_, rfl⟩, (cell j hj).choose_spec⟩
      obtain ⟨y, hy⟩ := hmk us hus (fun u hu => by obtain ⟨j, hj, rfl⟩ := List.mem_iff_getElem.1 hu; exact (hcell j hj).1)
      refine ⟨y, fun j u hu => ?_⟩
      rw [hy] at hu
      obtain ⟨hj, rfl⟩ := List.getElem?_eq_some_iff.1 hu
      exact (hcell j hj).2
    refine ⟨List.ofFn (fun i : Fin xs.length => (key i.1 i.2).choose), by simp, ⟨by simpa using h.len, h.cap, h.max, fun _ => ⟨b, off, rfl, hb, fun i x hx j u hu => ?_⟩⟩⟩
    obtain ⟨hi', rfl⟩ := List.getElem?_eq_some_iff.1 hx
    simp only [List.length_ofFn] at hi'
    simp only [List.getElem_ofFn] at hu
    exact (key i hi').choose_spec j u hu
theorem encEnt_int (x : EntT) : ∀ u ∈ encEnt x, ∃ k : Int, u = .int .i64 k := by
  intro u hu
  simp only [encEnt, List.mem_cons, List.not_mem_nil, or_false] at hu
  rcases hu with rfl | rfl | rfl | rfl | rfl <;> exact ⟨_, rfl⟩
theorem encEnt_mk (us : List Value) (hl : us.length = 5) (h : ∀ u ∈ us, ∃ k : Int, u = .int .i64 k) : ∃ x, encEnt x = us := by
  match us, hl with
  | [a, b, c, d, e], _ =>
    obtain ⟨a', rfl⟩ := h a (by simp)
    obtain ⟨b', rfl⟩ := h b (by simp)
    obtain ⟨c', rfl⟩ := h c (by simp)
    obtain ⟨d', rfl⟩ := h d (by simp)
    obtain ⟨e', rfl⟩ := h e (by simp)
    exact ⟨(a', b', c', d', e'), rfl⟩
theorem encI_int (x : Int) : ∀ u ∈ encI x, ∃ k : Int, u = .int .i64 k := by
  intro u hu
  simp only [encI, List.mem_cons, List.not_mem_nil, or_false] at hu
  exact ⟨x, hu⟩
theorem encI_mk (us : List Value) (hl : us.length = 1) (h : ∀ u ∈ us, ∃ k : Int, u = .int .i64 k) : ∃ x, encI x = us := by
  match us, hl with
  | [a], _ =>
    obtain ⟨a', rfl⟩ := h a (by simp)
    exact ⟨a', rfl⟩
theorem gm_any {w : World} {D : Nat → Prop} {A : Option Addr} {n c : Nat} {B : Option Addr} {p d : Nat} {E : Option Addr} {q f : Nat} {g : GameT} (h : GmD w D A n c B p d E q f g) (a : Addr) (v : Int) :
    ∃ g' : GameT, (g'.1.length = g.1.length ∧ g'.2.1.length = g.2.1.length ∧ g'.2.2.length = g.2.2.length) ∧ GmD (w.setCell a (.int .i64 v)) D A n c B p d E q f g' := by
  obtain ⟨y0, l0, h0⟩ := rd_any encEnt_len encEnt_int encEnt_mk h.en a v
  obtain ⟨y1, l1, h1⟩ := rd_any encI_len encI_int encI_mk h.fl a v
  obtain ⟨y2, l2, h2⟩ := rd_any encI_len encI_int encI_mk h.la a v
  exact ⟨(y0, y1, y2), ⟨l0, l1, l2⟩, h0, h1, h2, h.ad⟩
set_option maxRecDepth 100000 in
set_option maxHeartbeats 2000000 in
theorem l20Game_c (g P : Nat) (w : World) (hr : Rd w g P) (hP : P ≤ 40000) :
    Calls Tryd.prog 60 #[.pointer (some ⟨g, 0, none⟩)] w fun e w' => DrO w g (P + 2600) e w' := by
  have hg := hr.lt
  have hB0 : Below w.heap.size w ((w.alloc (.cells #[.slice none 0 0, .slice none 0 0, .slice none 0 0] 35)).alloc (.cells #[.int .i64 0, .int .i64 6, .int .i64 20, .int .i64 40] 3)) := ((Below.refl w.heap.size w).alloc (Nat.le_refl _) _).alloc (by simp) _
  have hbx0 : Bx3 ((w.alloc (.cells #[.slice none 0 0, .slice none 0 0, .slice none 0 0] 35)).alloc (.cells #[.int .i64 0, .int .i64 6, .int .i64 20, .int .i64 40] 3)) w.heap.size (.slice none 0 0) (.slice none 0 0) (.slice none 0 0) 35 := (Bx3.made w (.slice none 0 0) (.slice none 0 0) (.slice none 0 0) 35).alloc _
  have hs := sl_arr encI_len (w.alloc (.cells #[.slice none 0 0, .slice none 0 0, .slice none 0 0] 35)) #[.int .i64 0, .int .i64 6, .int .i64 20, .int .i64 40] 3 [0, 6, 20, 40] rfl
  rw [World.size_alloc] at hs
  have hsh := hide hs
  have hr0 := hr.keep hB0
  have ho0 : Only w.heap.size (some g) w ((w.alloc (.cells #[.slice none 0 0, .slice none 0 0, .slice none 0 0] 35)).alloc (.cells #[.int .i64 0, .int .i64 6, .int .i64 20, .int .i64 40] 3)) := Only.of_below hB0
  have hz0 : w.heap.size + 2 ≤ ((w.alloc (.cells #[.slice none 0 0, .slice none 0 0, .slice none 0 0] 35)).alloc (.cells #[.int .i64 0, .int .i64 6, .int .i64 20, .int .i64 40] 3)).heap.size := by simp only [World.size_alloc]; omega
  clear hs hB0 hr
  go_enter Tryd.func60, Tryd.ntmps60
  go_wp2_with fail
  generalize ((w.alloc (.cells #[.slice none 0 0, .slice none 0 0, .slice none 0 0] 35)).alloc (.cells #[.int .i64 0, .int .i64 6, .int .i64 20, .int .i64 40] 3)) = w0 at *
  refine (one_c g P _ _ (some ⟨w.heap.size + 1, 0, none⟩) 4 4 [0, 6, 20, 40] w0 hr0 (by omega) rfl (by omega) (by omega) hsh.out (by omega) (by omega)).mono ?_
  rintro e w1 ⟨x, hx, rfl, hr1, h1⟩
  obtain ⟨m, hm, rfl⟩ : ∃ m : Nat, m ≤ 40 ∧ x = (m : Int) := by
    simp only [List.mem_cons, List.not_mem_nil, or_false] at hx
    rcases hx with rfl | rfl | rfl | rfl
    · exact ⟨0, by omega, rfl⟩
    · exact ⟨6, by omega, rfl⟩
    · exact ⟨20, by omega, rfl⟩
    · exact ⟨40, by omega, rfl⟩
  have ho1 := ho0.trans (h1.mono ho0.size)
  have hz1 := h1.size
  have hbx1 := hbx0.keep (h1.block w.heap.size (by omega) (fun e => by injection e with e; omega))
  clear hx h1 hr0 ho0 hsh
  go_wp2_with fail
  refine (l20Reqs_c g (P + 1) m w1 hr1 (by omega) hm).mono ?_
  rintro e w2 ⟨A2, c2, rs, rfl, how2, hok2, hlen2, hr2, h2⟩
  have ho2 := ho1.trans (h2.mono ho1.size)
  have hz2 := h2.size
  have hbx2 := hbx1.keep (h2.block w.heap.size (by omega) (fun e => by injection e with e; omega))
  have hows := hide (how2.slAt encReq_len).2.2
  have hok := hide hok2
  clear how2 hok2 h2 hr1 ho1 hbx1 hbx0
  go_wp2_with fail
  refine (l2Fold_c A2 rs.length c2 _ _ rs w2 rfl (by omega) hows.out (Nat.le_refl _) hok.out).mono ?_
  rintro e w3 ⟨A3, n3, c3, B3, p3, d3, E3, q3, f3, rfl, hg3, hb3⟩
  have hz3 := hb3.size
  have hokg := hide (show okG (foldG newG rs) from okG.folding newG_ok hok.out)
  go_wp2_with fail
  refine (l2CopyF_c A3 n3 c3 B3 p3 d3 E3 q3 f3 _ (foldG newG rs) w3 hg3 (fun b hb => hb.elim (fun h => h.elim) (fun h => h.2)) (okGD_len hokg.out)).mono ?_
  rintro e w4 ⟨g0, n4, c0, g1, p4, d1, g2, q4, f2, rfl, k0, k1, k2, hb4⟩
  have hz4 := hb4.size
  have h24 := hb3.trans (hb4.mono hz3)
  have hbx4 := hbx2.below h24 (by omega)
  have hr4 := hr2.keep h24
  have ho4 := ho2.trans ((Only.of_below h24).mono ho2.size)
  obtain ⟨yy0, yy1, yy2, yg0, yg1, yg2⟩ := hbx4.cells
  have k0h := hide k0
  have k1h := hide k1
  have k2h := hide k2
  clear hg3 k0 k1 k2
  go_wp2
  refine bodyPost_ret (v := .agg #[.slice (some ⟨g0, 0, none⟩) n4 c0, .slice (some ⟨g1, 0, none⟩) p4 d1, .slice (some ⟨g2, 0, none⟩) q4 f2]) (by simp [results, Tryd.results60, go_sem, yy0, yy1, yy2, yg0, yg1, yg2]) rfl ?_
  have hO : Onl w.heap.size w.heap.size w4 (((w4.setCell ⟨w.heap.size, 0, none⟩ (.slice (some ⟨g0, 0, none⟩) n4 c0)).setCell ⟨w.heap.size, 1, none⟩ (.slice (some ⟨g1, 0, none⟩) p4 d1)).setCell ⟨w.heap.size, 2, none⟩ (.slice (some ⟨g2, 0, none⟩) q4 f2)) := by (repeat (first | (with_reducible exact Onl.refl _ _ _) | (with_reducible exact Onl.drewL _ _ _) | (with_reducible refine Onl.set ?_ (by simp) _) | with_reducible refine Onl.drew ?_))
  refine ⟨g0, n4, c0, g1, p4, d1, g2, q4, f2, foldG newG rs, rfl, (k0h.out.keep (fun b hb => hO.blk b ?_ ?_)).mono (by omega), (k1h.out.keep (fun b hb => hO.blk b ?_ ?_)).mono (by omega), (k2h.out.keep (fun b hb => hO.blk b ?_ ?_)).mono (by omega), hokg.out, ?_, ?_⟩
  · have := (k0h.out.lt b hb).1; omega
  · have := (k0h.out.lt b hb).1; omega
  · have := (k1h.out.lt b hb).1; omega
  · have := (k1h.out.lt b hb).1; omega
  · have := (k2h.out.lt b hb).1; omega
  · have := (k2h.out.lt b hb).1; omega
  · exact ((((hr4.mono (by omega)).set (p := ⟨w.heap.size, 0, none⟩) hg _).set (p := ⟨w.heap.size, 1, none⟩) hg _).set (p := ⟨w.heap.size, 2, none⟩) hg _)
  · exact (((ho4.setC (p := ⟨w.heap.size, 0, none⟩) (Nat.le_refl _) _).setC (p := ⟨w.heap.size, 1, none⟩) (Nat.le_refl _) _).setC (p := ⟨w.heap.size, 2, none⟩) (Nat.le_refl _) _)
end Go.Proofs.YtajmfonepnkofaaDoor
namespace Go.Proofs.YtajmfonepnkofaaDoor
open Go.RowKit Rg
set_option linter.unusedVariables false
set_option linter.unusedSimpArgs false

theorem Rg.Stays.alloc {b : Nat} {o : Option Obj} {w : World} (h : Stays b o w) (hl : b < w.heap.size) (x : Obj) : Stays b o (w.alloc x) := ⟨(((Below.refl w.heap.size w).alloc (Nat.le_refl _) x).block b hl).trans h.heap⟩
theorem onlC {w3 X w4 : World} {g : Option Nat} (hb : Below w3.heap.size w3 X) (h : Only X.heap.size g X w4) : Only w3.heap.size g w3 w4 := (Only.of_below hb).trans (h.mono hb.size)
theorem finG {w w9 : World} {g P : Nat} {D : Nat → Prop} {A : Option Addr} {n c : Nat} {B : Option Addr} {p d : Nat} {E : Option Addr} {q f : Nat} {gm : GameT} (hg : g < w.heap.size) (hgm : GmD w9 D A n c B p d E q f gm) (hD : ∀ b, D b → w.heap.size < b ∧ b < w9.heap.size) (hl : gm.1.length ≤ 1000 ∧ gm.2.1.length ≤ 1000 ∧ gm.2.2.length ≤ 1000) (hr : Rd w9 g P) (ho : Only w.heap.size (some g) w w9) :
    DrG w g P (fun _ => True) (.returned (.agg #[.slice A n c, .slice B p d, .slice E q f])) (((w9.setCell ⟨w.heap.size, 0, none⟩ (.slice A n c)).setCell ⟨w.heap.size, 1, none⟩ (.slice B p d)).setCell ⟨w.heap.size, 2, none⟩ (.slice E q f)) := by
  have hO : Onl w.heap.size w.heap.size w9 (((w9.setCell ⟨w.heap.size, 0, none⟩ (.slice A n c)).setCell ⟨w.heap.size, 1, none⟩ (.slice B p d)).setCell ⟨w.heap.size, 2, none⟩ (.slice E q f)) := (((Onl.refl w.heap.size w.heap.size w9).set (p := ⟨w.heap.size, 0, none⟩) (.inl rfl) (.slice A n c)).set (p := ⟨w.heap.size, 1, none⟩) (.inl rfl) (.slice B p d)).set (p := ⟨w.heap.size, 2, none⟩) (.inl rfl) (.slice E q f)
  refine ⟨A, n, c, B, p, d, E, q, f, gm, rfl, (hgm.keep (fun b hb => hO.blk b ?_ ?_)).mono ?_, hl, trivial, ?_, ?_⟩
  · have := (hD b hb).1; omega
  · have := (hD b hb).1; omega
  · intro b hb
    rw [hO.size]
    have h1 := hD b hb
    exact ⟨by omega, h1.2⟩
  · exact ((hr.set (p := ⟨w.heap.size, 0, none⟩) hg _).set (p := ⟨w.heap.size, 1, none⟩) hg _).set (p := ⟨w.heap.size, 2, none⟩) hg _
  · exact ((ho.setC (p := ⟨w.heap.size, 0, none⟩) (Nat.le_refl _) _).setC (p := ⟨w.heap.size, 1, none⟩) (Nat.le_refl _) _).setC (p := ⟨w.heap.size, 2, none⟩) (Nat.le_refl _) _
theorem GmD.only {w w' : World} {D : Nat → Prop} {A : Option Addr} {n c : Nat} {B : Option Addr} {p d : Nat} {E : Option Addr} {q f g : Nat} {gm : GameT} (h : GmD w D A n c B p d E q f gm) (ho : Only w.heap.size (some g) w w') (hD : ∀ b, D b → g < b ∧ b < w.heap.size) : GmD w' D A n c B p d E q f gm := h.keep fun b hb => ho.block b (hD b hb).2 (fun e => by injection e with e; have := (hD b hb).1; omega)
theorem Bx3.onl {w w' : World} {b g : Nat} {v0 v1 v2 : Value} {t : TypeId} (h : Bx3 w b v0 v1 v2 t) (ho : Only w.heap.size (some g) w w') (hg : g < b) : Bx3 w' b v0 v1 v2 t := h.keep (ho.block b h.lt (fun e => by injection e with e; omega))
theorem Stays.onl {w w' : World} {b g : Nat} {o : Obj} (h : Stays b (some o) w) (ho : Only w.heap.size (some g) w w') (hg : g < b) : Stays b (some o) w' := ⟨(ho.block b (lt_of_heap h.heap) (fun e => by injection e with e; omega)).trans h.heap⟩
theorem any_fin {w w1 w5 : World} {g P : Nat} {D : Nat → Prop} {A : Option Addr} {n c : Nat} {B : Option Addr} {pp d : Nat} {E : Option Addr} {q f : Nat} {gm : GameT} {z0 z1 z2 v0 v1 v2 : Value} {t t' : TypeId} {p : Addr} (v : Int) (hg : g < w.heap.size) (hbx : Bx3 w5 w.heap.size z0 z1 z2 t) (ht : Bx3 w5 w1.heap.size v0 v1 v2 t') (hgm : Hid (GmD w5 D A n c B pp d E q f gm)) (hr : Rd w5 g P) (ho : Only w.heap.size (some g) w w5) (h1 : p.block ≠ w.heap.size) (h2 : p.block ≠ w1.heap.size) (h3 : g < p.block) (h4 : w.heap.size ≤ p.block) :
    ∃ g' : GameT, (g'.1.length = gm.1.length ∧ g'.2.1.length = gm.2.1.length ∧ g'.2.2.length = gm.2.2.length) ∧ GmD (w5.setCell p (.int .i64 v)) D A n c B pp d E q f g' ∧ Bx3 (w5.setCell p (.int .i64 v)) w.heap.size z0 z1 z2 t ∧ Bx3 (w5.setCell p (.int .i64 v)) w1.heap.size v0 v1 v2 t' ∧ Rd (w5.setCell p (.int .i64 v)) g P ∧ Only w.heap.size (some g) w (w5.setCell p (.int .i64 v)) ∧ w5.heap.size ≤ (w5.setCell p (.int .i64 v)).heap.size := by
  obtain ⟨g', hl, h⟩ := gm_any hgm.out p v
  exact ⟨g', hl, h, hbx.keep (Below.heap_setCell _ p _ _ (Ne.symm h1)), ht.keep (Below.heap_setCell _ p _ _ (Ne.symm h2)), hr.set h3 _, ho.setC h4 _, by simp⟩
set_option maxRecDepth 100000 in
set_option maxHeartbeats 2000000 in
theorem l20AnyGame_c (g P : Nat) (w : World) (hr : Rd w g P) (hP : P ≤ 30000) :
    Calls Tryd.prog 35 #[.pointer (some ⟨g, 0, none⟩)] w fun e w' => DrG w g (P + 2700) (fun _ => True) e w' := by
  have hg := hr.lt
  have hB0 := (Below.refl w.heap.size w).alloc (Nat.le_refl _) (.cells #[.slice none 0 0, .slice none 0 0, .slice none 0 0] 35)
  have hbx0 := Bx3.made w (.slice none 0 0) (.slice none 0 0) (.slice none 0 0) 35
  have hr0 := hr.keep hB0
  have ho0 : Only w.heap.size (some g) w (w.alloc (.cells #[.slice none 0 0, .slice none 0 0, .slice none 0 0] 35)) := Only.of_below hB0
  have hz0 : w.heap.size + 1 ≤ (w.alloc (.cells #[.slice none 0 0, .slice none 0 0, .slice none 0 0] 35)).heap.size := by simp only [World.size_alloc]; omega
  clear hB0 hr
  go_enter Tryd.func35, Tryd.ntmps35
  go_wp2_with fail
  generalize w.alloc (.cells #[.slice none 0 0, .slice none 0 0, .slice none 0 0] 35) = w0 at *
  refine (l20Game_c g P w0 hr0 (by omega)).mono ?_
  rintro e w1 ⟨g0, n, c, g1, p, d, g2, q, f, gm, rfl, kA, kB, kE, hok, hr1, h1⟩
  have hgm := gm_own3 kA kB kE
  have hq0 := (kA.lt g0 (by simp [Value.ownBlock])).2
  have hq1 := (kB.lt g1 (by simp [Value.ownBlock])).2
  have hq2 := (kE.lt g2 (by simp [Value.ownBlock])).2
  have hl := okGD_len hok
  have hp16 : p = 16 := by have h1 := hgm.fl.len; have h2 := hok.n16; omega
  have hq4 : q = 4 := by have h1 := hgm.la.len; have h2 := hok.n4; omega
  subst hp16
  subst hq4
  have hz1 := h1.size
  have ho1 := ho0.trans (h1.mono ho0.size)
  have hbx1 := hbx0.onl h1 hg
  have hA2 := (Below.refl w1.heap.size w1).alloc (Nat.le_refl _) (.cells #[.slice (some ⟨g0, 0, none⟩) n c, .slice (some ⟨g1, 0, none⟩) 16 d, .slice (some ⟨g2, 0, none⟩) 4 f] 35)
  have ht2 := Bx3.made w1 (.slice (some ⟨g0, 0, none⟩) n c) (.slice (some ⟨g1, 0, none⟩) 16 d) (.slice (some ⟨g2, 0, none⟩) 4 f) 35
  have hr2 := hr1.keep hA2
  have ho2 := ho1.trans ((Only.of_below hA2).mono ho1.size)
  have hbx2 := hbx1.below hA2 hbx1.lt
  have hgm2 := hgm.below hA2 (fun b hb => hb.2)
  have hz2 : w1.heap.size + 1 ≤ (w1.alloc (.cells #[.slice (some ⟨g0, 0, none⟩) n c, .slice (some ⟨g1, 0, none⟩) 16 d, .slice (some ⟨g2, 0, none⟩) 4 f] 35)).heap.size := by simp only [World.size_alloc]; omega
  have hlh := hide hl
  have kA2 := hide (kA.below hA2 (Nat.le_refl _))
  have kB2 := hide (kB.below hA2 (Nat.le_refl _))
  have kE2 := hide (kE.below hA2 (Nat.le_refl _))
  have hokh := hide hok
  have hnl := hide hgm.en.len
  clear hA2 hgm kA kB kE hbx0 hbx1 ho0 ho1 hr0 hr1 h1 hl hok
  go_wp2_with fail
  generalize w1.alloc (.cells #[.slice (some ⟨g0, 0, none⟩) n c, .slice (some ⟨g1, 0, none⟩) 16 d, .slice (some ⟨g2, 0, none⟩) 4 f] 35) = w2 at *
  refine (pick_c g _ 14 w2 hr2 (by omega) (by omega)).mono ?_
  rintro e w3 ⟨k, rfl, -, hr3, h3⟩
  have hz3 := h3.size
  have ho3 := ho2.trans (h3.mono ho2.size)
  have hbx3 := hbx2.onl h3 hg
  have ht3 := ht2.onl h3 (by omega)
  have hgm3 := hide (hgm2.only h3 (fun b hb => by omega))
  have kA3 := hide (kA2.out.onl h3 (by omega))
  have kB3 := hide (kB2.out.onl h3 (by omega))
  have kE3 := hide (kE2.out.onl h3 (by omega))
  have hb0 := kA3.out.lt g0 (by simp [Value.ownBlock])
  have hb1 := kB3.out.lt g1 (by simp [Value.ownBlock])
  have hb2 := kE3.out.lt g2 (by simp [Value.ownBlock])
  clear h3 ho2 hbx2 ht2 hgm2 hr2 kA2 kB2 kE2
  obtain ⟨yy0, yy1, yy2, yg0, yg1, yg2⟩ := hbx3.cells
  obtain ⟨tt0, tt1, tt2, tg0, tg1, tg2⟩ := ht3.cells
  have hDb : ∀ b, (w0.heap.size ≤ b ∧ b < w1.heap.size) → w.heap.size < b ∧ b < w3.heap.size := fun b hb => by omega
  have hly := hbx3.lt
  have hlt := ht3.lt
  by_cases k0 : k = 0
  · have d0 : ((k : Int) == 0) = true := by rw [k0]; rfl
    clear k0
    have hst : Stays w1.heap.size (some (.cells #[.slice (some ⟨g0, 0, none⟩) n c, .slice (some ⟨g1, 0, none⟩) 16 d, .slice (some ⟨g2, 0, none⟩) 4 f] 35 (0, 0))) w3 := ⟨ht3⟩
    have hneF : g1 ≠ w1.heap.size ∧ g1 ≠ w.heap.size := by omega
    go_wp2
    refine wp_region_O (Stays _ _) [35] [] [11] (Ord.seg [0, 1, 2, 4] (Ord.both 3 5 (Ord.seg [5, 6, 7, 8] Ord.done) (Ord.seg [3, 6, 7, 8] Ord.done))) (by kernel_rfl) (by kernel_rfl) (by kernel_rfl) (Stays.drew hst) ?_
    go_wp2_with (first
      | ((with_reducible refine wpO_done ?_); (try dsimp only); generalize hWW : w5.setCell ⟨g1, jF, none⟩ (.int .i64 vF) = w6; have hF := any_fin (p := ⟨g1, jF, none⟩) vF hg hbx5 ht5 hgm5 hr5 ho5 hneF.2 hneF.1 (by dsimp only; omega) (by dsimp only; omega); rw [hWW] at hF; clear hWW; obtain ⟨gm6, hl6, hgm6, hbx6, ht6, hr6, ho6, hz6⟩ := hF; clear yy0 yy1 yy2 yg0 yg1 yg2 tt0 tt1 tt2 tg0 tg1 tg2; obtain ⟨yy0, yy1, yy2, yg0, yg1, yg2⟩ := hbx6.cells; obtain ⟨tt0, tt1, tt2, tg0, tg1, tg2⟩ := ht6.cells)
      | (go_at_call 61; have hq := hr4; refine (one_c g _ _ _ _ 3 3 [-1, 3, 20] _ (by first | (with_reducible exact hr4) | exact hr4.keep (by (focus (repeat (first | (with_reducible exact Below.refl _ _) | (with_reducible refine Below.drew ?_) | (with_reducible refine Below.allocR ?_ _)))))) (by omega) rfl (by omega) (by omega) (by first | (with_reducible exact sl_arr encI_len w4 #[.int .i64 (-1), .int .i64 3, .int .i64 20] 3 [-1, 3, 20] rfl) | (with_reducible exact hsX)) (by omega) (by first | omega | (simp; done) | (simp; omega))).mono ?_; rintro e w5 ⟨vF, -, rfl, hr5, h5⟩; have ho35 : Only w3.heap.size (some g) w3 w5 := ho34.trans ((onlC (by (focus (repeat (first | (with_reducible exact Below.refl _ _) | (with_reducible refine Below.drew ?_) | (with_reducible refine Below.allocR ?_ _))))) h5).mono ho34.size); have hz5 := ho35.size; have ho5 := ho3.trans (ho35.mono ho3.size); have hbx5 := hbx3.onl ho35 hg; have ht5 := ht3.onl ho35 (by omega); have hgm5 := hide (hgm3.out.only ho35 (fun b hb => by have := hDb b hb; omega)); have kB5 := kB3.out.onl ho35 (by omega); have hjl : jF < gm.2.1.length := (by rw [hokh.out.n16]; exact hjF); have aF := (kB5.slAt encI_len).2.2.i64 hjl; simp only [Nat.zero_add] at aF; have fF := kB5.frozen jF; have hst5 : Stays w1.heap.size (some (.cells #[.slice (some ⟨g0, 0, none⟩) n c, .slice (some ⟨g1, 0, none⟩) 16 d, .slice (some ⟨g2, 0, none⟩) 4 f] 35 (0, 0))) w5 := ⟨ht5⟩; have hK := hK)
      | (go_at_call 36; refine (pick_c g _ 16 _ (hr3.keep (by (focus (repeat (first | (with_reducible exact Below.refl _ _) | (with_reducible refine Below.drew ?_) | (with_reducible refine Below.allocR ?_ _)))))) (by omega) (by omega)).mono ?_; rintro e w4 ⟨jF, rfl, hjF', hr4, h4⟩; have hjF : jF < 16 := (by have := hjF'.1 (by omega); omega); have ho34 : Only w3.heap.size (some g) w3 w4 := onlC (by (focus (repeat (first | (with_reducible exact Below.refl _ _) | (with_reducible refine Below.drew ?_) | (with_reducible refine Below.allocR ?_ _))))) h4; have hz4 := ho34.size; have hst4 : Stays w1.heap.size (some (.cells #[.slice (some ⟨g0, 0, none⟩) n c, .slice (some ⟨g1, 0, none⟩) 16 d, .slice (some ⟨g2, 0, none⟩) 4 f] 35 (0, 0))) w4 := ⟨ht3.onl ho34 (by omega)⟩; have hlt4 : w1.heap.size < w4.heap.size := (by omega); (try (have hz34 : w3.heap.size + 1 ≤ w4.heap.size := (by have := h4.size; simpa using this); have hsX : Sl encI 1 w4 w3.heap.size (w3.heap.size + 1) (some ⟨w3.heap.size, 0, none⟩) [-1, 3, 20] := Sl.only (w := (w3.alloc (.cells #[.int .i64 (-1), .int .i64 3, .int .i64 20] 3)).drew) (sl_arr encI_len w3 #[.int .i64 (-1), .int .i64 3, .int .i64 20] 3 [-1, 3, 20] rfl) h4 (by omega) (by simp))); have hK := hK)
      | ((with_reducible refine wpO_seg ?_); simp only [pickL, List.toList_toArray, List.getElem?_cons_succ, List.getElem?_cons_zero]) | ((with_reducible refine wpO_both ?_ ?_) <;> simp only [pickL, List.toList_toArray, List.getElem?_cons_succ, List.getElem?_cons_zero]) | ((with_reducible refine wpO_three ?_ ?_ ?_) <;> simp only [pickL, List.toList_toArray, List.getElem?_cons_succ, List.getElem?_cons_zero]) | ((with_reducible refine wpO_done ?_); try dsimp only) | ((with_reducible refine Stays.and_ ?_ ?_; (focus (repeat (first | (with_reducible assumption) | ((with_reducible refine Stays.cell ?_ ?_); rotate_left; (focus (first | (with_reducible assumption) | (simp; done) | (simp; omega)))) | (with_reducible refine Stays.drew ?_) | ((with_reducible refine Stays.alloc ?_ ?_ _); rotate_left; (focus (first | (with_reducible assumption) | omega)))))); intro hS)) | ((with_reducible refine wpT_q0 ?_ ?_ ?_ ?_); (focus rfl); (focus rfl); (focus rfl); intro K hK) | ((with_reducible apply wpT_k); (focus rfl); (focus rfl); (focus rfl); (focus rfl); (focus (first | assumption | exact Stays.drew (by assumption))); (focus rfl); (focus go_simp); intro K hK) | ((with_reducible refine wpT_xs0 ?_ ?_ ?_); (focus rfl); (focus rfl); intro K hK) | ((with_reducible refine wpT_noL ?_ ?_); (focus (first | exact wanted_no _ _ _ rfl rfl rfl | exact wanted_un _ _ _ rfl rfl rfl)); simp only [setO, List.set_cons_succ, List.set_cons_zero]) | ((with_reducible refine wpT_q1 ?_ ?_ ?_ ?_); (focus exact wanted_yes _ _ _ rfl rfl rfl); (focus rfl); (focus rfl); intro K hK) | ((with_reducible refine wpT_xs1 ?_ ?_ ?_); (focus exact wanted_yes _ _ _ rfl rfl rfl); (focus rfl); intro K hK) | ((with_reducible refine wpT_nil ?_); try dsimp only)
      | fail)
    all_goals
      refine bodyPost_ret (v := .agg #[.slice (some ⟨g0, 0, none⟩) n c, .slice (some ⟨g1, 0, none⟩) 16 d, .slice (some ⟨g2, 0, none⟩) 4 f]) (by simp [results, Tryd.results35, go_sem, yy0, yy1, yy2, yg0, yg1, yg2]) rfl (finG hg hgm6 (fun b hb => by have := hDb b hb; omega) (by have := hlh.out; omega) (hr6.mono (by omega)) ho6)
  · have d0 : ((k : Int) == 0) = false := by simp; omega
    by_cases k1 : k = 1
    · have d1 : ((k : Int) == 1) = true := by rw [k1]; rfl
      clear k1 k0
      have hf4 := hgm3.out.la.cap
      have hfm := hgm3.out.la.max
      have hla := hgm3.out.la.drop_ 1 (by omega)
      simp only [Nat.one_mul, Nat.zero_add] at hla
      have hf1 : ¬ f = 1 := by omega
      have hf2 : ¬ f ≤ 1 := by omega
      have hlah := hide hla
      clear hla
      have hgm9 := hide (show GmD (w3.setCell ⟨w1.heap.size, 2, none⟩ (.slice (some ⟨g2, 1, none⟩) 3 (f - 1))) (fun b => w0.heap.size ≤ b ∧ b < w1.heap.size) (some ⟨g0, 0, none⟩) n c (some ⟨g1, 0, none⟩) 16 d (some ⟨g2, 1, none⟩) 3 (f - 1) (gm.1, gm.2.1, gm.2.2.drop 1) from (show GmD w3 (fun b => w0.heap.size ≤ b ∧ b < w1.heap.size) (some ⟨g0, 0, none⟩) n c (some ⟨g1, 0, none⟩) 16 d (some ⟨g2, 1, none⟩) 3 (f - 1) (gm.1, gm.2.1, gm.2.2.drop 1) from ⟨hgm3.out.en, hgm3.out.fl, hlah.out, hgm3.out.ad⟩).keep (fun b hb => Below.heap_setCell _ ⟨w1.heap.size, 2, none⟩ _ b (by dsimp only; omega)))
      go_wp2
      refine bodyPost_ret (v := .agg #[.slice (some ⟨g0, 0, none⟩) n c, .slice (some ⟨g1, 0, none⟩) 16 d, .slice (some ⟨g2, 1, none⟩) 3 (f - 1)]) (by simp [results, Tryd.results35, go_sem, yy0, yy1, yy2, yg0, yg1, yg2]) rfl (finG (w9 := w3.setCell ⟨w1.heap.size, 2, none⟩ (.slice (some ⟨g2, 1, none⟩) 3 (f - 1))) hg hgm9.out (fun b hb => by have := hDb b hb; simp; omega) (by have := hlh.out; refine ⟨this.1, this.2.1, ?_⟩; simp only [List.length_drop]; omega) ((hr3.set (p := ⟨w1.heap.size, 2, none⟩) (by dsimp only; omega) _).mono (by omega)) (ho3.setC (p := ⟨w1.heap.size, 2, none⟩) (by dsimp only; omega) _))
    · have d1 : ((k : Int) == 1) = false := by simp; omega
      by_cases k2 : k = 2
      · have d2 : ((k : Int) == 2) = true := by rw [k2]; rfl
        clear k2 k1 k0
        by_cases hn0 : 0 < n
        · have dn : decide ((0 : Int) < (n : Int)) = true := decide_eq_true (by omega)
          have dn' : decide (0 < n) = true := decide_eq_true hn0
          have hneF : g0 ≠ w1.heap.size ∧ g0 ≠ w.heap.size := by omega
          have hst : Stays w1.heap.size (some (.cells #[.slice (some ⟨g0, 0, none⟩) n c, .slice (some ⟨g1, 0, none⟩) 16 d, .slice (some ⟨g2, 0, none⟩) 4 f] 35 (0, 0))) w3 := ⟨ht3⟩
          go_wp2
          refine wp_region_T (Stays _ _) [35] [] [31] [0, 1, 2, 3, 4, 5, 6, 7] (by kernel_rfl) (by kernel_rfl) (by kernel_rfl) (Stays.drew hst) ?_; simp only [pickL, List.getElem?_cons_succ, List.getElem?_cons_zero]
          go_wp2_with (first
            | ((with_reducible refine wpT_nil ?_); (try dsimp only); generalize hWW : w5.setCell ⟨g0, 1, none⟩ (.int .i64 vF) = w6; have hF := any_fin (p := ⟨g0, 1, none⟩) vF hg hbx5 ht5 hgm5 hr5 ho5 hneF.2 hneF.1 (by dsimp only; omega) (by dsimp only; omega); rw [hWW] at hF; clear hWW; obtain ⟨gm6, hl6, hgm6, hbx6, ht6, hr6, ho6, hz6⟩ := hF; clear yy0 yy1 yy2 yg0 yg1 yg2 tt0 tt1 tt2 tg0 tg1 tg2; obtain ⟨yy0, yy1, yy2, yg0, yg1, yg2⟩ := hbx6.cells; obtain ⟨tt0, tt1, tt2, tg0, tg1, tg2⟩ := ht6.cells)
            | (go_at_call 61; refine (one_c g _ _ _ (some ⟨w3.heap.size, 0, none⟩) 3 3 [-1, 4, 0] ((w3.alloc (.cells #[.int .i64 (-1), .int .i64 4, .int .i64 0] 3)).drew) (hr3.keep (by (focus (repeat (first | (with_reducible exact Below.refl _ _) | (with_reducible refine Below.drew ?_) | (with_reducible refine Below.allocR ?_ _)))))) (by omega) rfl (by omega) (by omega) (show Sl encI 1 ((w3.alloc (.cells #[.int .i64 (-1), .int .i64 4, .int .i64 0] 3)).drew) w3.heap.size (w3.heap.size + 1) (some ⟨w3.heap.size, 0, none⟩) [-1, 4, 0] from sl_arr encI_len w3 #[.int .i64 (-1), .int .i64 4, .int .i64 0] 3 [-1, 4, 0] rfl) (by omega) (by simp)).mono ?_; rintro e w5 ⟨vF, -, rfl, hr5, h5⟩; have ho35 : Only w3.heap.size (some g) w3 w5 := onlC (by (focus (repeat (first | (with_reducible exact Below.refl _ _) | (with_reducible refine Below.drew ?_) | (with_reducible refine Below.allocR ?_ _))))) h5; have hz5 := ho35.size; have ho5 := ho3.trans (ho35.mono ho3.size); have hbx5 := hbx3.onl ho35 hg; have ht5 := ht3.onl ho35 (by omega); have hgm5 := hide (hgm3.out.only ho35 (fun b hb => by have := hDb b hb; omega)); have kA5 := kA3.out.onl ho35 (by omega); have hjl : 0 < gm.1.length := (by rw [← hnl.out]; exact hn0); obtain ⟨-, aF, -, -, -⟩ := (kA5.slAt encEnt_len).2.2.getEnt hjl; simp only [Nat.zero_add, Nat.zero_mul] at aF; have fF := kA5.frozen 1; have hst5 : Stays w1.heap.size (some (.cells #[.slice (some ⟨g0, 0, none⟩) n c, .slice (some ⟨g1, 0, none⟩) 16 d, .slice (some ⟨g2, 0, none⟩) 4 f] 35 (0, 0))) w5 := ⟨ht5⟩; have hK := hK)
            | ((with_reducible refine wpO_seg ?_); simp only [pickL, List.toList_toArray, List.getElem?_cons_succ, List.getElem?_cons_zero]) | ((with_reducible refine wpO_both ?_ ?_) <;> simp only [pickL, List.toList_toArray, List.getElem?_cons_succ, List.getElem?_cons_zero]) | ((with_reducible refine wpO_three ?_ ?_ ?_) <;> simp only [pickL, List.toList_toArray, List.getElem?_cons_succ, List.getElem?_cons_zero]) | ((with_reducible refine wpO_done ?_); try dsimp only) | ((with_reducible refine Stays.and_ ?_ ?_; (focus (repeat (first | (with_reducible assumption) | ((with_reducible refine Stays.cell ?_ ?_); rotate_left; (focus (first | (with_reducible assumption) | (simp; done) | (simp; omega)))) | (with_reducible refine Stays.drew ?_) | ((with_reducible refine Stays.alloc ?_ ?_ _); rotate_left; (focus (first | (with_reducible assumption) | omega)))))); intro hS)) | ((with_reducible refine wpT_q0 ?_ ?_ ?_ ?_); (focus rfl); (focus rfl); (focus rfl); intro K hK) | ((with_reducible apply wpT_k); (focus rfl); (focus rfl); (focus rfl); (focus rfl); (focus (first | assumption | exact Stays.drew (by assumption))); (focus rfl); (focus go_simp); intro K hK) | ((with_reducible refine wpT_xs0 ?_ ?_ ?_); (focus rfl); (focus rfl); intro K hK) | ((with_reducible refine wpT_noL ?_ ?_); (focus (first | exact wanted_no _ _ _ rfl rfl rfl | exact wanted_un _ _ _ rfl rfl rfl)); simp only [setO, List.set_cons_succ, List.set_cons_zero]) | ((with_reducible refine wpT_q1 ?_ ?_ ?_ ?_); (focus exact wanted_yes _ _ _ rfl rfl rfl); (focus rfl); (focus rfl); intro K hK) | ((with_reducible refine wpT_xs1 ?_ ?_ ?_); (focus exact wanted_yes _ _ _ rfl rfl rfl); (focus rfl); intro K hK) | ((with_reducible refine wpT_nil ?_); try dsimp only)
            | fail)
          refine bodyPost_ret (v := .agg #[.slice (some ⟨g0, 0, none⟩) n c, .slice (some ⟨g1, 0, none⟩) 16 d, .slice (some ⟨g2, 0, none⟩) 4 f]) (by simp [results, Tryd.results35, go_sem, yy0, yy1, yy2, yg0, yg1, yg2]) rfl (finG hg hgm6 (fun b hb => by have := hDb b hb; omega) (by have := hlh.out; omega) (hr6.mono (by omega)) ho6)
        · have dn : decide ((0 : Int) < (n : Int)) = false := decide_eq_false (by omega)
          have dn' : decide (0 < n) = false := decide_eq_false hn0
          go_wp2
          refine bodyPost_ret (v := .agg #[.slice (some ⟨g0, 0, none⟩) n c, .slice (some ⟨g1, 0, none⟩) 16 d, .slice (some ⟨g2, 0, none⟩) 4 f]) (by simp [results, Tryd.results35, go_sem, yy0, yy1, yy2, yg0, yg1, yg2]) rfl (finG hg hgm3.out hDb hlh.out (hr3.mono (by omega)) ho3)
      · have d2 : ((k : Int) == 2) = false := by simp; omega
        go_wp2
        refine bodyPost_ret (v := .agg #[.slice (some ⟨g0, 0, none⟩) n c, .slice (some ⟨g1, 0, none⟩) 16 d, .slice (some ⟨g2, 0, none⟩) 4 f]) (by simp [results, Tryd.results35, go_sem, yy0, yy1, yy2, yg0, yg1, yg2]) rfl (finG hg hgm3.out hDb hlh.out (hr3.mono (by omega)) ho3)
end Go.Proofs.YtajmfonepnkofaaDoor
namespace Go.Proofs.YtajmfonepnkofaaDoor
open Go.RowKit Rg
set_option linter.unusedVariables false
set_option linter.unusedSimpArgs false

/-- What 'DrawReplyOf' draws: a small number, some game, some ask. -/
def DrR (w : World) (e : Ending) (w' : World) : Prop := ∃ (k : Nat) (A : Option Addr) (n c : Nat) (B : Option Addr) (p d : Nat) (E : Option Addr) (q f : Nat) (gm : GameT) (t : ReqV), e = .returned (.tuple #[.int .i64 (k : Int), .agg #[.slice A n c, .slice B p d, .slice E q f], .agg #[.int .i64 t.1, .int .i64 t.2.1, .int .i64 t.2.2.1, .int .i64 t.2.2.2.1, .int .i64 t.2.2.2.2]]) ∧ k ≤ 4 ∧ GmD w' (fun b => w.heap.size ≤ b ∧ b < w'.heap.size) A n c B p d E q f gm ∧ (gm.1.length ≤ 1000 ∧ gm.2.1.length ≤ 1000 ∧ gm.2.2.length ≤ 1000) ∧ Below w.heap.size w w'
set_option maxRecDepth 100000 in
set_option maxHeartbeats 2000000 in
theorem DrawReplyOf_c (A : Option Addr) (n c : Nat) (bs : List Int) (w : World) (hn : n = bs.length) (hc : n ≤ c) (hcm : c ≤ maxLen) (hs : Sl encU 1 w 0 w.heap.size A bs) (hb : ∀ b ∈ bs, 0 ≤ b ∧ b < 256) :
    Calls Tryd.prog 12 #[.slice A n c] w fun e w' => DrR w e w' := by
  have hB0 : Below w.heap.size w ((w.alloc (.cells #[.slice none 0 0, .slice none 0 0, .slice none 0 0] 35)).alloc (.cells #[.int .i64 0, .int .i64 0, .int .i64 0, .int .i64 0, .int .i64 0] 37)) := ((Below.refl w.heap.size w).alloc (Nat.le_refl _) _).alloc (by simp) _
  have hbx0 : Bx3 ((w.alloc (.cells #[.slice none 0 0, .slice none 0 0, .slice none 0 0] 35)).alloc (.cells #[.int .i64 0, .int .i64 0, .int .i64 0, .int .i64 0, .int .i64 0] 37)) w.heap.size (.slice none 0 0) (.slice none 0 0) (.slice none 0 0) 35 := (Bx3.made w (.slice none 0 0) (.slice none 0 0) (.slice none 0 0) 35).alloc _
  have hby0 : Bx5 ((w.alloc (.cells #[.slice none 0 0, .slice none 0 0, .slice none 0 0] 35)).alloc (.cells #[.int .i64 0, .int .i64 0, .int .i64 0, .int .i64 0, .int .i64 0] 37)) (w.heap.size + 1) (0, 0, 0, 0, 0) 37 := by
    have h2 := Bx5.made (w.alloc (.cells #[.slice none 0 0, .slice none 0 0, .slice none 0 0] 35)) (0, 0, 0, 0, 0) 37
    simp only [World.size_alloc] at h2
    exact h2
  have hz0 : w.heap.size + 2 ≤ ((w.alloc (.cells #[.slice none 0 0, .slice none 0 0, .slice none 0 0] 35)).alloc (.cells #[.int .i64 0, .int .i64 0, .int .i64 0, .int .i64 0, .int .i64 0] 37)).heap.size := by simp only [World.size_alloc]; omega
  have hs0 := hide ((hs.below hB0 (Nat.le_refl _)).mono (Nat.le_refl _) hB0.size)
  have hn' := hide hn
  have hbb := hide hb
  clear hs hn hb
  go_enter Tryd.func12, Tryd.ntmps12
  go_wp2_with fail
  generalize ((w.alloc (.cells #[.slice none 0 0, .slice none 0 0, .slice none 0 0] 35)).alloc (.cells #[.int .i64 0, .int .i64 0, .int .i64 0, .int .i64 0, .int .i64 0] 37)) = w0 at *
  refine (l20Open_c A n c bs w0 hn'.out hc hcm hs0.out hbb.out).mono ?_
  rintro e w1 ⟨rfl, hr1, hb1⟩
  have hz1 := hb1.size
  have hlt1 := hr1.lt
  have hB1 := hB0.trans (hb1.mono (by omega))
  have hbx1 := hbx0.below hb1 hbx0.lt
  have hby1 := hby0.below hb1 hby0.lt
  clear hb1 hbx0 hby0
  clear hs0
  generalize w0.heap.size = g at *
  go_wp2_with fail
  refine (l20AnyGame_c g 0 w1 hr1 (by omega)).mono ?_
  rintro e w2 ⟨A2, n2, c2, B2, p2, d2, E2, q2, f2, gm, rfl, hgm, hl, -, hr2, h2⟩
  have hz2 := h2.size
  have hbx2 := hbx1.keep (h2.block w.heap.size (by omega) (fun e => by injection e with e; omega))
  have hby2 := hby1.keep (h2.block (w.heap.size + 1) (by omega) (fun e => by injection e with e; omega))
  have hB2 := hB1.trans (h2.toBelow (B' := w.heap.size) (by omega) (fun k hk => by injection hk with hk; omega))
  have hA3 := (Below.refl w2.heap.size w2).alloc (Nat.le_refl _) (.cells #[.slice A2 n2 c2, .slice B2 p2 d2, .slice E2 q2 f2] 35)
  have ht3 := Bx3.made w2 (.slice A2 n2 c2) (.slice B2 p2 d2) (.slice E2 q2 f2) 35
  have hr3 := hr2.keep hA3
  have hbx3 := hbx2.below hA3 hbx2.lt
  have hby3 := hby2.below hA3 hby2.lt
  have hgm3 := hgm.below hA3 (fun b hb => hb.2)
  have hB3 := hB2.trans (hA3.mono hB2.size)
  have hz3 : w2.heap.size + 1 ≤ (w2.alloc (.cells #[.slice A2 n2 c2, .slice B2 p2 d2, .slice E2 q2 f2] 35)).heap.size := by simp only [World.size_alloc]; omega
  have hlh := hide hl
  have hgm3h := hide hgm3
  clear hA3 hgm hgm3 hl h2 hbx1 hbx2 hby1 hby2
  obtain ⟨tt0, tt1, tt2, tg0, tg1, tg2⟩ := ht3.cells
  have hlt := ht3.lt
  go_wp2
  generalize w2.alloc (.cells #[.slice A2 n2 c2, .slice B2 p2 d2, .slice E2 q2 f2] 35) = w3 at *
  have hst : Stays w2.heap.size (some (.cells #[.slice A2 n2 c2, .slice B2 p2 d2, .slice E2 q2 f2] 35 (0, 0))) w3 := ⟨ht3⟩
  have hg2 : g < w2.heap.size := hr2.lt
  refine wp_region_T (Stays _ _) [] [] [13] [0, 2, 3, 1, 4, 5, 6, 7] (by kernel_rfl) (by kernel_rfl) (by kernel_rfl) (Stays.drew hst) ?_; simp only [pickL, List.getElem?_cons_succ, List.getElem?_cons_zero]
  go_wp2_with (first
    | (go_at_call 37; refine (l20AnyReq_c g _ w4 hr4 (by omega)).mono ?_; rintro e w5 ⟨t, rfl, -, hr5, h5⟩; have ho35 : Only w3.heap.size (some g) w3 w5 := ho34.trans (h5.mono ho34.size); have hz5 := ho35.size; have hbx5 := hbx3.keep (ho35.block w.heap.size (by omega) (fun e => by injection e with e; omega)); have hby5 := hby3.keep (ho35.block (w.heap.size + 1) (by omega) (fun e => by injection e with e; omega)); have ht5 := ht3.onl ho35 hg2; have hgm5 := hide (hgm3h.out.keep (fun b hb => ho35.block b (by have := hb.2; omega) (fun e => by injection e with e; have := hb.1; omega))); have hst5 : Stays w2.heap.size (some (.cells #[.slice A2 n2 c2, .slice B2 p2 d2, .slice E2 q2 f2] 35 (0, 0))) w5 := ⟨ht5⟩; obtain ⟨yy0, yy1, yy2, yg0, yg1, yg2⟩ := hbx5.cells; obtain ⟨rr0, rr1, rr2, rr3, rr4, rg0, rg1, rg2, rg3, rg4⟩ := hby5.cells; have hlx5 := hbx5.lt; have hly5 := hby5.lt; have hlt5 := ht5.lt; have hK := hK)
    | (go_at_call 36; refine (pick_c g _ 5 w3.drew hr3 (by omega) (by omega)).mono ?_; rintro e w4 ⟨k, rfl, hk', hr4, h4⟩; have hk4 : k ≤ 4 := (by have := hk'.1 (by omega); omega); have ho34 : Only w3.heap.size (some g) w3 w4 := onlC ((Below.refl _ _).drew) h4; have hz4 := ho34.size; have hst4 : Stays w2.heap.size (some (.cells #[.slice A2 n2 c2, .slice B2 p2 d2, .slice E2 q2 f2] 35 (0, 0))) w4 := ⟨ht3.onl ho34 hg2⟩; have hK := hK)
    | ((with_reducible refine wpO_seg ?_); simp only [pickL, List.toList_toArray, List.getElem?_cons_succ, List.getElem?_cons_zero]) | ((with_reducible refine wpO_both ?_ ?_) <;> simp only [pickL, List.toList_toArray, List.getElem?_cons_succ, List.getElem?_cons_zero]) | ((with_reducible refine wpO_three ?_ ?_ ?_) <;> simp only [pickL, List.toList_toArray, List.getElem?_cons_succ, List.getElem?_cons_zero]) | ((with_reducible refine wpO_done ?_); try dsimp only) | ((with_reducible refine Stays.and_ ?_ ?_; (focus (repeat (first | (with_reducible assumption) | ((with_reducible refine Stays.cell ?_ ?_); rotate_left; (focus (first | (with_reducible assumption) | (simp; done) | (simp; omega)))) | (with_reducible refine Stays.drew ?_) | ((with_reducible refine Stays.alloc ?_ ?_ _); rotate_left; (focus (first | (with_reducible assumption) | omega)))))); intro hS)) | ((with_reducible refine wpT_q0 ?_ ?_ ?_ ?_); (focus rfl); (focus rfl); (focus rfl); intro K hK) | ((with_reducible apply wpT_k); (focus rfl); (focus rfl); (focus rfl); (focus rfl); (focus (first | assumption | exact Stays.drew (by assumption))); (focus rfl); (focus go_simp); intro K hK) | ((with_reducible refine wpT_xs0 ?_ ?_ ?_); (focus rfl); (focus rfl); intro K hK) | ((with_reducible refine wpT_noL ?_ ?_); (focus (first | exact wanted_no _ _ _ rfl rfl rfl | exact wanted_un _ _ _ rfl rfl rfl)); simp only [setO, List.set_cons_succ, List.set_cons_zero]) | ((with_reducible refine wpT_q1 ?_ ?_ ?_ ?_); (focus exact wanted_yes _ _ _ rfl rfl rfl); (focus rfl); (focus rfl); intro K hK) | ((with_reducible refine wpT_xs1 ?_ ?_ ?_); (focus exact wanted_yes _ _ _ rfl rfl rfl); (focus rfl); intro K hK) | ((with_reducible refine wpT_nil ?_); try dsimp only)
    | fail)
  refine bodyPost_ret (v := .tuple #[.int .i64 (k : Int), .agg #[.slice A2 n2 c2, .slice B2 p2 d2, .slice E2 q2 f2], .agg #[.int .i64 t.1, .int .i64 t.2.1, .int .i64 t.2.2.1, .int .i64 t.2.2.2.1, .int .i64 t.2.2.2.2]]) (by simp [results, Tryd.results12, go_sem, yy0, yy1, yy2, yg0, yg1, yg2, rr0, rr1, rr2, rr3, rr4, rg0, rg1, rg2, rg3, rg4]) rfl ?_
  have hO : Onl w.heap.size (w.heap.size + 1) w5 ((((((((w5.setCell ⟨w.heap.size, 0, none⟩ (.slice A2 n2 c2)).setCell ⟨w.heap.size, 1, none⟩ (.slice B2 p2 d2)).setCell ⟨w.heap.size, 2, none⟩ (.slice E2 q2 f2)).setCell ⟨w.heap.size + 1, 0, none⟩ (.int .i64 t.1)).setCell ⟨w.heap.size + 1, 1, none⟩ (.int .i64 t.2.1)).setCell ⟨w.heap.size + 1, 2, none⟩ (.int .i64 t.2.2.1)).setCell ⟨w.heap.size + 1, 3, none⟩ (.int .i64 t.2.2.2.1)).setCell ⟨w.heap.size + 1, 4, none⟩ (.int .i64 t.2.2.2.2)) := by (repeat (first | (with_reducible exact Onl.refl _ _ _) | (with_reducible exact Onl.drewL _ _ _) | (with_reducible refine Onl.set ?_ (by simp) _) | with_reducible refine Onl.drew ?_))
  have hB5 : Below w.heap.size w w5 := hB3.trans (ho35.toBelow (B' := w.heap.size) (by omega) (fun k hk => by injection hk with hk; omega))
  refine ⟨k, A2, n2, c2, B2, p2, d2, E2, q2, f2, gm, t, rfl, hk4, (hgm5.out.keep (fun b hb => hO.blk b (by have := hb.1; omega) (by have := hb.1; omega))).mono (fun b hb => ⟨by have := hb.1; omega, by rw [hO.size]; have := hb.2; omega⟩), hlh.out, hO.bel _ _ (by omega) (by omega) hB5⟩
end Go.Proofs.YtajmfonepnkofaaDoor
namespace Go.Proofs.YtajmfonepnkofaaDoor
open Go.RowKit Rg
set_option linter.unusedVariables false
set_option linter.unusedSimpArgs false

theorem entOk_iff (t : EntT) : entOk t ↔ (inB t.1 1 4 = true ∧ inB t.2.1 0 3 = true ∧ inB t.2.2.1 0 3 = true ∧ inB t.2.2.2.1 0 3 = true ∧ inB t.2.2.2.2 0 20 = true) := by
  unfold entOk rng inB
  simp only [decide_eq_true_eq]
set_option maxRecDepth 100000 in
set_option maxHeartbeats 1000000 in
theorem l2EntOk_c (t : EntT) (w : World) : Calls Tryd.prog 47 #[.agg #[.int .i64 t.1, .int .i64 t.2.1, .int .i64 t.2.2.1, .int .i64 t.2.2.2.1, .int .i64 t.2.2.2.2]] w fun e w' => e = .returned (.bool (decide (entOk t))) ∧ Below w.heap.size w w' := by
  have hA0 := (Below.refl w.heap.size w).alloc (Nat.le_refl _) (.cells #[.int .i64 t.1, .int .i64 t.2.1, .int .i64 t.2.2.1, .int .i64 t.2.2.2.1, .int .i64 t.2.2.2.2] 82)
  cases i1 : inB t.1 1 4
  · have hr : decide (entOk t) = false := decide_eq_false (fun h => by have := (entOk_iff t).1 h; simp [i1] at this)
    rw [hr]
    clear hr
    go_enter Tryd.func47, Tryd.ntmps47
    go_wp2_with (first | (go_at_call 20; refine (l1In_c _ _ _ _).mono ?_; rintro e _ ⟨rfl, rfl⟩; (try simp only [i1])) | fail)
    go_ret
    exact ⟨rfl, hA0⟩
  ·
    cases i2 : inB t.2.1 0 3
    · have hr : decide (entOk t) = false := decide_eq_false (fun h => by have := (entOk_iff t).1 h; simp [i2] at this)
      rw [hr]
      clear hr
      go_enter Tryd.func47, Tryd.ntmps47
      go_wp2_with (first | (go_at_call 20; refine (l1In_c _ _ _ _).mono ?_; rintro e _ ⟨rfl, rfl⟩; (try simp only [i1, i2])) | fail)
      go_ret
      exact ⟨rfl, hA0⟩
    ·
      cases i3 : inB t.2.2.1 0 3
      · have hr : decide (entOk t) = false := decide_eq_false (fun h => by have := (entOk_iff t).1 h; simp [i3] at this)
        rw [hr]
        clear hr
        go_enter Tryd.func47, Tryd.ntmps47
        go_wp2_with (first | (go_at_call 20; refine (l1In_c _ _ _ _).mono ?_; rintro e _ ⟨rfl, rfl⟩; (try simp only [i1, i2, i3])) | fail)
        go_ret
        exact ⟨rfl, hA0⟩
      ·
        cases i4 : inB t.2.2.2.1 0 3
        · have hr : decide (entOk t) = false := decide_eq_false (fun h => by have := (entOk_iff t).1 h; simp [i4] at this)
          rw [hr]
          clear hr
          go_enter Tryd.func47, Tryd.ntmps47
          go_wp2_with (first | (go_at_call 20; refine (l1In_c _ _ _ _).mono ?_; rintro e _ ⟨rfl, rfl⟩; (try simp only [i1, i2, i3, i4])) | fail)
          go_ret
          exact ⟨rfl, hA0⟩
        ·
          cases i5 : inB t.2.2.2.2 0 20
          · have hr : decide (entOk t) = false := decide_eq_false (fun h => by have := (entOk_iff t).1 h; simp [i5] at this)
            rw [hr]
            clear hr
            go_enter Tryd.func47, Tryd.ntmps47
            go_wp2_with (first | (go_at_call 20; refine (l1In_c _ _ _ _).mono ?_; rintro e _ ⟨rfl, rfl⟩; (try simp only [i1, i2, i3, i4, i5])) | fail)
            go_ret
            exact ⟨rfl, hA0⟩
          · have hr : decide (entOk t) = true := decide_eq_true ((entOk_iff t).2 ⟨i1, i2, i3, i4, i5⟩)
            rw [hr]
            clear hr
            go_enter Tryd.func47, Tryd.ntmps47
            go_wp2_with (first | (go_at_call 20; refine (l1In_c _ _ _ _).mono ?_; rintro e _ ⟨rfl, rfl⟩; (try simp only [i1, i2, i3, i4, i5])) | fail)
            go_ret
            exact ⟨rfl, hA0⟩
set_option maxRecDepth 100000 in
set_option maxHeartbeats 4000000 in
theorem l2Ok_c (A : Option Addr) (n c : Nat) (B : Option Addr) (p d : Nat) (E : Option Addr) (q f : Nat) (D : Nat → Prop) (g : GameT) (w : World) (hg : GmD w D A n c B p d E q f g) (hD : ∀ b, D b → b < w.heap.size) (hbn : n ≤ 1048576) (hbp : p ≤ 1048576) (hbq : q ≤ 1048576) :
    Calls Tryd.prog 21 #[.agg #[.slice A n c, .slice B p d, .slice E q f]] w fun e w' => e = .returned (.bool (okB g)) ∧ Below w.heap.size w w' := by
  have hA0 := (Below.refl w.heap.size w).alloc (Nat.le_refl _) (.cells #[.slice A n c, .slice B p d, .slice E q f] 35)
  have hx0 := Bx3.made w (.slice A n c) (.slice B p d) (.slice E q f) 35
  have hx0h := hide hx0
  have hgh := hide hg
  have hn' := hide hg.en.len
  have hp' := hide hg.fl.len
  have hq' := hide hg.la.len
  clear hx0 hg
  go_enter Tryd.func21, Tryd.ntmps21
  go_wp2
  generalize w.alloc (.cells #[.slice A n c, .slice B p d, .slice E q f] 35) = w1 at *
  have hz1 := hA0.size
  go_loopw [4, 3] (fun i s wr => ∃ (k : Nat) (gs : Int), k ≤ n ∧ i = .int .i64 (k : Int) ∧ s = .int .i64 gs ∧ Hid (goldS (g.1.take k) = gs) ∧ Hid (preE g.1 k) ∧ Below w1.heap.size w1 wr) (fun i _ _ => n - (intOf i).toNat)
  case atStart => exact ⟨0, 0, Nat.zero_le _, rfl, rfl, hide rfl, hide (preE.zero _), Below.refl _ _⟩
  case round =>
    obtain ⟨k, gs, hk, rfl, rfl, hgsh, hpre, hbr⟩ := hrel
    have hzr := hbr.size
    have hgr := (hgh.out.below hA0 hD).below hbr (fun b hb => by have := hD b hb; omega)
    have hxr := hx0h.out.below hbr hx0h.out.lt
    obtain ⟨xx0, xx1, xx2, -, -, -⟩ := hxr.cells
    have hlxr := hxr.lt
    have hBr := hA0.trans (hbr.mono hz1)
    have hgsb : 0 ≤ gs ∧ gs ≤ 20 * (k : Int) := by have := hpre.out.gold (by have := hn'.out; omega); rw [hgsh.out] at this; exact this
    by_cases hlt : k < n
    · have hlx : k < g.1.length := by have := hn'.out; omega
      obtain ⟨b, off, rfl, hDb⟩ := hgr.en.addr hlx
      obtain ⟨a0, a1, a2, a3, a4⟩ := hgr.en.ent hlx
      have hbw := hD b hDb
      have hbr' : b < wr.heap.size := by omega
      have hw64 : Hid (goldS (g.1.take (k + 1)) = gs + g.1[k].2.2.2.2) := hide (by rw [goldS_take hlx, hgsh.out])
      have hprevc : Hid (∀ j (hj : j + 1 = k), wr.cell? ⟨b, off + j * 5, none⟩ = some (.int .i64 (g.1[j]'(by omega)).1)) := hide (fun j hj => (hgr.en.ent (by omega)).1)
      clear hgr
      go_wp2
      refine wp_region_T (SinceB (wr.heap.size) _) [] [] [] [0, 1, 2, 3, 4, 5, 6, 7, 8, 9, 10, 11, 12, 13, 14, 15, 16, 17, 18, 19, 20, 21, 22, 23, 24, 25, 26] (by kernel_rfl) (by kernel_rfl) (by kernel_rfl) (SinceB.drew _ _) ?_; simp only [pickL, List.getElem?_cons_succ, List.getElem?_cons_zero]
      cases ie : decide (entOk g.1[k])
      · have hres := hide (ok_not hlx (g := g) (fun h => of_decide_eq_false ie h.1))
        go_wp2_with (first
          | (go_at_call 47; refine (l2EntOk_c g.1[k] _).mono ?_; rintro e w2 ⟨rfl, hb2⟩; simp only [ie]; have hb2 : Below wr.heap.size wr w2 := Below.appR (Below.drew (Below.refl _ _)) hb2; have hS2 : SinceB (wr.heap.size) wr w2 := (SinceB.refl _ _).below hb2 (Nat.le_refl _); have hK := hK)
          | (with_reducible refine SinceB.and_ ?_ ?_; (focus (repeat (first | (with_reducible exact SinceB.refl _ _) | (with_reducible assumption) | (with_reducible refine SinceB.drewR ?_) | ((with_reducible refine SinceB.alloc ?_ ?_ _); rotate_left; (focus (first | (with_reducible assumption) | (simp; done) | (simp; omega) | omega))) | ((with_reducible refine SinceB.set ?_ ?_ _); rotate_left; (focus (first | omega | (simp; done) | (simp; omega))))))); intro hS) | ((with_reducible refine wpT_noL ?_ ?_); (focus (first | exact wanted_no _ _ _ rfl rfl rfl | exact wanted_un _ _ _ rfl rfl rfl)); simp only [setO, List.set_cons_succ, List.set_cons_zero]) | ((with_reducible refine wpT_q0 ?_ ?_ ?_ ?_); (focus rfl); (focus rfl); (focus rfl); intro K hK) | ((with_reducible refine wpT_i ?_ ?_); (focus (refine ⟨_, _, _, _, _, _, _, _, rfl, rfl, rfl, rfl, rfl, ?_⟩; omega)); intro K hK) | ((with_reducible apply wpT_lB); (focus rfl); (focus rfl); (focus rfl); (focus rfl); (focus (first | exact SinceB.drew _ _ | (with_reducible assumption))); (focus (simp <;> omega)); (focus go_simp); intro K hK) | ((with_reducible apply wpT_lwB); (focus exact wanted_yes _ _ _ rfl rfl rfl); (focus rfl); (focus rfl); (focus rfl); (focus (first | exact SinceB.drew _ _ | (with_reducible assumption))); (focus (simp <;> omega)); (focus go_simp); intro K hK) | ((with_reducible refine wpT_xs0 ?_ ?_ ?_); (focus rfl); (focus rfl); intro K hK) | ((with_reducible refine wpT_q1 ?_ ?_ ?_ ?_); (focus exact wanted_yes _ _ _ rfl rfl rfl); (focus rfl); (focus rfl); intro K hK) | ((with_reducible refine wpT_xs1 ?_ ?_ ?_); (focus exact wanted_yes _ _ _ rfl rfl rfl); (focus rfl); intro K hK) | ((with_reducible refine wpT_nil ?_); try dsimp only)
          | fail)
        go_ret
        exact ⟨by rw [hres.out]; rfl, hBr.trans (hb2.mono hBr.size)⟩
      · have hent := of_decide_eq_true ie
        by_cases hk0 : k = 0
        · have hpre' := hide (hpre.out.succ hlx hent (by have h1 := hent.1.1; unfold lastC; rw [if_pos hk0]; omega))
          have hgold := hent.2.2.2.2
          unfold rng at hgold
          have hk0' : decide (0 < (k : Int)) = false := decide_eq_false (by omega)
          have hk0'' : ¬ 0 < k := by omega
          clear hent
          have hk0h := hide hk0
          clear hk0
          go_wp2_with (first
            | (go_at_call 47; refine (l2EntOk_c g.1[k] _).mono ?_; rintro e w2 ⟨rfl, hb2⟩; simp only [ie]; have hb2 : Below wr.heap.size wr w2 := Below.appR (Below.drew (Below.refl _ _)) hb2; have hS2 : SinceB (wr.heap.size) wr w2 := (SinceB.refl _ _).below hb2 (Nat.le_refl _); have hz2 := hb2.size; have xx0 := keepc hb2 xx0; have xx1 := keepc hb2 xx1; have xx2 := keepc hb2 xx2; have a0 := keepc hb2 a0; have a4 := keepc hb2 a4; have hK := hK)
            | (with_reducible refine SinceB.and_ ?_ ?_; (focus (repeat (first | (with_reducible exact SinceB.refl _ _) | (with_reducible assumption) | (with_reducible refine SinceB.drewR ?_) | ((with_reducible refine SinceB.alloc ?_ ?_ _); rotate_left; (focus (first | (with_reducible assumption) | (simp; done) | (simp; omega) | omega))) | ((with_reducible refine SinceB.set ?_ ?_ _); rotate_left; (focus (first | omega | (simp; done) | (simp; omega))))))); intro hS) | ((with_reducible refine wpT_noL ?_ ?_); (focus (first | exact wanted_no _ _ _ rfl rfl rfl | exact wanted_un _ _ _ rfl rfl rfl)); simp only [setO, List.set_cons_succ, List.set_cons_zero]) | ((with_reducible refine wpT_q0 ?_ ?_ ?_ ?_); (focus rfl); (focus rfl); (focus rfl); intro K hK) | ((with_reducible refine wpT_i ?_ ?_); (focus (refine ⟨_, _, _, _, _, _, _, _, rfl, rfl, rfl, rfl, rfl, ?_⟩; omega)); intro K hK) | ((with_reducible apply wpT_lB); (focus rfl); (focus rfl); (focus rfl); (focus rfl); (focus (first | exact SinceB.drew _ _ | (with_reducible assumption))); (focus (simp <;> omega)); (focus go_simp); intro K hK) | ((with_reducible apply wpT_lwB); (focus exact wanted_yes _ _ _ rfl rfl rfl); (focus rfl); (focus rfl); (focus rfl); (focus (first | exact SinceB.drew _ _ | (with_reducible assumption))); (focus (simp <;> omega)); (focus go_simp); intro K hK) | ((with_reducible refine wpT_xs0 ?_ ?_ ?_); (focus rfl); (focus rfl); intro K hK) | ((with_reducible refine wpT_q1 ?_ ?_ ?_ ?_); (focus exact wanted_yes _ _ _ rfl rfl rfl); (focus rfl); (focus rfl); intro K hK) | ((with_reducible refine wpT_xs1 ?_ ?_ ?_); (focus exact wanted_yes _ _ _ rfl rfl rfl); (focus rfl); intro K hK) | ((with_reducible refine wpT_nil ?_); try dsimp only)
            | fail)
          go_roundw
          case rel => exact ⟨k + 1, _, by omega, by go_num, rfl, hw64, hpre', hbr.trans (hb2.mono hzr)⟩
          case measure => simp [intOf]; omega
        · obtain ⟨j, hj⟩ : ∃ j, j + 1 = k := ⟨k - 1, by omega⟩
          have hjx : j < g.1.length := by omega
          have b0 := hprevc.out j hj
          have hlast : lastC g.1 k = (g.1[j]'hjx).1 := by rw [← hj]; exact lastC_succ hjx
          have hjk : (k : Int) - 1 = (j : Int) := by omega
          have hjn : j < n := by omega
          have hk0' : decide (0 < (k : Int)) = true := decide_eq_true (by omega)
          have hk0'' : 0 < k := by omega
          have hgold := hent.2.2.2.2
          unfold rng at hgold
          cases il : decide (g.1[k].1 ≤ (g.1[j]'hjx).1)
          · have hpre' := hide (hpre.out.succ hlx hent (by rw [hlast]; have := of_decide_eq_false il; omega))
            have hlh := hide hlast
            clear hlast hent
            go_wp2_with (first
              | (go_at_call 47; refine (l2EntOk_c g.1[k] _).mono ?_; rintro e w2 ⟨rfl, hb2⟩; simp only [ie]; have hb2 : Below wr.heap.size wr w2 := Below.appR (Below.drew (Below.refl _ _)) hb2; have hS2 : SinceB (wr.heap.size) wr w2 := (SinceB.refl _ _).below hb2 (Nat.le_refl _); have hz2 := hb2.size; have xx0 := keepc hb2 xx0; have xx1 := keepc hb2 xx1; have xx2 := keepc hb2 xx2; have a0 := keepc hb2 a0; have a4 := keepc hb2 a4; have b0 := keepc hb2 b0; have hK := hK)
              | (with_reducible refine SinceB.and_ ?_ ?_; (focus (repeat (first | (with_reducible exact SinceB.refl _ _) | (with_reducible assumption) | (with_reducible refine SinceB.drewR ?_) | ((with_reducible refine SinceB.alloc ?_ ?_ _); rotate_left; (focus (first | (with_reducible assumption) | (simp; done) | (simp; omega) | omega))) | ((with_reducible refine SinceB.set ?_ ?_ _); rotate_left; (focus (first | omega | (simp; done) | (simp; omega))))))); intro hS) | ((with_reducible refine wpT_noL ?_ ?_); (focus (first | exact wanted_no _ _ _ rfl rfl rfl | exact wanted_un _ _ _ rfl rfl rfl)); simp only [setO, List.set_cons_succ, List.set_cons_zero]) | ((with_reducible refine wpT_q0 ?_ ?_ ?_ ?_); (focus rfl); (focus rfl); (focus rfl); intro K hK) | ((with_reducible refine wpT_i ?_ ?_); (focus (refine ⟨_, _, _, _, _, _, _, _, rfl, rfl, rfl, rfl, rfl, ?_⟩; omega)); intro K hK) | ((with_reducible apply wpT_lB); (focus rfl); (focus rfl); (focus rfl); (focus rfl); (focus (first | exact SinceB.drew _ _ | (with_reducible assumption))); (focus (simp <;> omega)); (focus go_simp); intro K hK) | ((with_reducible apply wpT_lwB); (focus exact wanted_yes _ _ _ rfl rfl rfl); (focus rfl); (focus rfl); (focus rfl); (focus (first | exact SinceB.drew _ _ | (with_reducible assumption))); (focus (simp <;> omega)); (focus go_simp); intro K hK) | ((with_reducible refine wpT_xs0 ?_ ?_ ?_); (focus rfl); (focus rfl); intro K hK) | ((with_reducible refine wpT_q1 ?_ ?_ ?_ ?_); (focus exact wanted_yes _ _ _ rfl rfl rfl); (focus rfl); (focus rfl); intro K hK) | ((with_reducible refine wpT_xs1 ?_ ?_ ?_); (focus exact wanted_yes _ _ _ rfl rfl rfl); (focus rfl); intro K hK) | ((with_reducible refine wpT_nil ?_); try dsimp only)
              | fail)
            go_roundw
            case rel => exact ⟨k + 1, _, by omega, by go_num, rfl, hw64, hpre', hbr.trans (hb2.mono hzr)⟩
            case measure => simp [intOf]; omega
          · have hres := hide (ok_not hlx (g := g) (fun h => by have h1 := h.2; rw [hlast] at h1; have := of_decide_eq_true il; omega))
            have hlh := hide hlast
            clear hlast hent
            go_wp2_with (first
              | (go_at_call 47; refine (l2EntOk_c g.1[k] _).mono ?_; rintro e w2 ⟨rfl, hb2⟩; simp only [ie]; have hb2 : Below wr.heap.size wr w2 := Below.appR (Below.drew (Below.refl _ _)) hb2; have hS2 : SinceB (wr.heap.size) wr w2 := (SinceB.refl _ _).below hb2 (Nat.le_refl _); have hz2 := hb2.size; have xx0 := keepc hb2 xx0; have xx1 := keepc hb2 xx1; have xx2 := keepc hb2 xx2; have a0 := keepc hb2 a0; have a4 := keepc hb2 a4; have b0 := keepc hb2 b0; have hK := hK)
              | (with_reducible refine SinceB.and_ ?_ ?_; (focus (repeat (first | (with_reducible exact SinceB.refl _ _) | (with_reducible assumption) | (with_reducible refine SinceB.drewR ?_) | ((with_reducible refine SinceB.alloc ?_ ?_ _); rotate_left; (focus (first | (with_reducible assumption) | (simp; done) | (simp; omega) | omega))) | ((with_reducible refine SinceB.set ?_ ?_ _); rotate_left; (focus (first | omega | (simp; done) | (simp; omega))))))); intro hS) | ((with_reducible refine wpT_noL ?_ ?_); (focus (first | exact wanted_no _ _ _ rfl rfl rfl | exact wanted_un _ _ _ rfl rfl rfl)); simp only [setO, List.set_cons_succ, List.set_cons_zero]) | ((with_reducible refine wpT_q0 ?_ ?_ ?_ ?_); (focus rfl); (focus rfl); (focus rfl); intro K hK) | ((with_reducible refine wpT_i ?_ ?_); (focus (refine ⟨_, _, _, _, _, _, _, _, rfl, rfl, rfl, rfl, rfl, ?_⟩; omega)); intro K hK) | ((with_reducible apply wpT_lB); (focus rfl); (focus rfl); (focus rfl); (focus rfl); (focus (first | exact SinceB.drew _ _ | (with_reducible assumption))); (focus (simp <;> omega)); (focus go_simp); intro K hK) | ((with_reducible apply wpT_lwB); (focus exact wanted_yes _ _ _ rfl rfl rfl); (focus rfl); (focus rfl); (focus rfl); (focus (first | exact SinceB.drew _ _ | (with_reducible assumption))); (focus (simp <;> omega)); (focus go_simp); intro K hK) | ((with_reducible refine wpT_xs0 ?_ ?_ ?_); (focus rfl); (focus rfl); intro K hK) | ((with_reducible refine wpT_q1 ?_ ?_ ?_ ?_); (focus exact wanted_yes _ _ _ rfl rfl rfl); (focus rfl); (focus rfl); intro K hK) | ((with_reducible refine wpT_xs1 ?_ ?_ ?_); (focus exact wanted_yes _ _ _ rfl rfl rfl); (focus rfl); intro K hK) | ((with_reducible refine wpT_nil ?_); try dsimp only)
              | fail)
            go_ret
            exact ⟨by rw [hres.out]; rfl, hBr.trans (hb2.mono hBr.size)⟩
    · obtain rfl : k = n := by omega
      have hpreN := hide (show preE g.1 g.1.length from by rw [← hn'.out]; exact hpre.out)
      have hgsN : Hid (goldS g.1 = gs) := hide (by rw [← hgsh.out, List.take_of_length_le (by have := hn'.out; omega)])
      go_wp2
      generalize wr = v1 at *
      go_loopw [5, 3] (fun i s ws => ∃ (j : Nat) (fs : Int), j ≤ p ∧ i = .int .i64 (j : Int) ∧ s = .int .i64 (gs + fs) ∧ Hid ((g.2.1.take j).sum = fs) ∧ Hid (preF g.2.1 j) ∧ Below v1.heap.size v1 ws) (fun i _ _ => p - (intOf i).toNat)
      case atStart => exact ⟨0, 0, Nat.zero_le _, rfl, by simp, hide rfl, hide (fun j _ h => absurd h (by omega)), Below.refl _ _⟩
      case round =>
        obtain ⟨j, fs, hj, rfl, rfl, hfsh, hpf, hbs⟩ := hrel
        have hzs := hbs.size
        have hgs2 := hgr.below hbs (fun b hb => by have := hD b hb; omega)
        have hxs := hxr.below hbs hlxr
        clear xx0 xx1 xx2
        obtain ⟨xx0, xx1, xx2, -, -, -⟩ := hxs.cells
        have hlxs := hxs.lt
        have hfsb : 0 ≤ fs ∧ fs ≤ 20 * (j : Int) := by have := hpf.out.sum (by have := hp'.out; omega); rw [hfsh.out] at this; exact this
        have hBs := hA0.trans ((hbr.mono hz1).trans (hbs.mono (by omega)))
        by_cases hlt2 : j < p
        · have hjx : j < g.2.1.length := by have := hp'.out; omega
          obtain ⟨bB, offB, rfl, hDb⟩ := hgs2.fl.addr hjx
          have a0 := hgs2.fl.i64 hjx
          have hbw := hD bB hDb
          have hbr' : bB < wr.heap.size := by omega
          have hnext : Hid ((g.2.1.take (j + 1)).sum = fs + g.2.1[j]) := hide (by rw [sum_take hjx, hfsh.out])
          clear hgs2
          cases i1 : inB g.2.1[j] 0 20
          · have hres := hide (ok_flo hjx (g := g) (fun h => inB_no i1 h))
            go_wp2_with (first
              | (go_at_call 20; refine (l1In_c _ _ _ _).mono ?_; rintro e _ ⟨rfl, rfl⟩; (try simp only [i1]))
              | fail)
            go_ret
            exact ⟨by rw [hres.out]; rfl, hBs⟩
          · have i1y := inB_yes i1
            have hpf' := hide (hpf.out.succ hjx i1y)
            go_wp2_with (first
              | (go_at_call 20; refine (l1In_c _ _ _ _).mono ?_; rintro e _ ⟨rfl, rfl⟩; (try simp only [i1]))
              | fail)
            go_roundw
            case rel => exact ⟨j + 1, _, by omega, by go_num, by congr 1; omega, hnext, hpf', hbs⟩
            case measure => simp [intOf]; omega
        · obtain rfl : j = p := by omega
          have hpfN := hide (show preF g.2.1 g.2.1.length from by rw [← hp'.out]; exact hpf.out)
          have hfsN : Hid (g.2.1.sum = fs) := hide (by rw [← hfsh.out, List.take_of_length_le (by have := hp'.out; omega)])
          go_wp2
          generalize wr = v2 at *
          go_loopw [6] (fun i ws => ∃ (h : Nat), h ≤ q ∧ i = .int .i64 (h : Int) ∧ Hid (∀ i (hi : i < g.2.2.length), i < h → rng g.2.2[i] 0 30) ∧ Below v2.heap.size v2 ws) (fun i _ => q - (intOf i).toNat)
          case atStart => exact ⟨0, Nat.zero_le _, rfl, hide (fun i _ h => absurd h (by omega)), Below.refl _ _⟩
          case round =>
            obtain ⟨h, hh, rfl, hpl, hbt⟩ := hrel
            have hzt := hbt.size
            have hgt := hgs2.below hbt (fun b hb => by have := hD b hb; omega)
            have hxt := hxs.below hbt hlxs
            clear xx0 xx1 xx2
            obtain ⟨xx0, xx1, xx2, -, -, -⟩ := hxt.cells
            have hlxt := hxt.lt
            have hBt := hBs.trans (hbt.mono (by omega))
            by_cases hlt3 : h < q
            · have hhx : h < g.2.2.length := by have := hq'.out; omega
              obtain ⟨bE, offE, rfl, hDe⟩ := hgt.la.addr hhx
              have a0 := hgt.la.i64 hhx
              have hbw := hD bE hDe
              have hbr' : bE < wr.heap.size := by omega
              clear hgt
              cases i1 : inB g.2.2[h] 0 30
              · have hres := hide (show okB g = false from okB_false fun hg => inB_no i1 (hg.las _ (List.getElem_mem hhx)))
                go_wp2_with (first
                  | (go_at_call 20; refine (l1In_c _ _ _ _).mono ?_; rintro e _ ⟨rfl, rfl⟩; (try simp only [i1]))
                  | fail)
                go_ret
                exact ⟨by rw [hres.out]; rfl, hBt⟩
              · have i1y := inB_yes i1
                go_wp2_with (first
                  | (go_at_call 20; refine (l1In_c _ _ _ _).mono ?_; rintro e _ ⟨rfl, rfl⟩; (try simp only [i1]))
                  | fail)
                go_roundw
                case rel => exact ⟨h + 1, by omega, by go_num, hide (fun i hi hih => by
                  by_cases e : i < h
                  · exact hpl.out i hi e
                  · obtain rfl : i = h := by omega
                    exact i1y), hbt⟩
                case measure => simp [intOf]; omega
            · obtain rfl : h = q := by omega
              have hlaN := hide (show ∀ x ∈ g.2.2, rng x 0 30 from fun x hx => by
                obtain ⟨i, hi, rfl⟩ := List.mem_iff_getElem.1 hx
                exact hpl.out i hi (by have := hq'.out; omega))
              clear hgt
              by_cases h16 : j = 16
              · by_cases h4 : h = 4
                · subst h4
                  subst h16
                  cases h20 : (gs + fs == 20)
                  · have hres := hide (show okB g = false from okB_false fun hg => by
                      have := hg.sum
                      rw [hgsN.out, hfsN.out] at this
                      rw [this] at h20
                      cases h20)
                    go_wp2
                    go_ret
                    exact ⟨by rw [hres.out]; rfl, hBt⟩
                  · have h20' : Hid (gs + fs = 20) := hide (by simpa using h20)
                    have hres := hide (show okB g = true from okB_true (ok_all hpreN.out hpfN.out hlaN.out hp'.out.symm hq'.out.symm (by rw [hgsN.out, hfsN.out]; exact h20'.out)))
                    go_wp2
                    go_ret
                    exact ⟨by rw [hres.out]; rfl, hBt⟩
                · have hres := hide (show okB g = false from okB_false fun hg => h4 (by rw [hq'.out]; exact hg.n4))
                  have e1 : ((h : Int) == 4) = false := by simp; omega
                  have e2 : decide ((h : Int) = 4) = false := decide_eq_false (by omega)
                  have e3 : ¬ ((h : Int) = 4) := by omega
                  subst h16
                  go_wp2
                  go_ret
                  exact ⟨by rw [hres.out]; rfl, hBt⟩
              · have hres := hide (show okB g = false from okB_false fun hg => h16 (by rw [hp'.out]; exact hg.n16))
                have e1 : ((j : Int) == 16) = false := by simp; omega
                have e2 : decide ((j : Int) = 16) = false := decide_eq_false (by omega)
                have e3 : ¬ ((j : Int) = 16) := by omega
                go_wp2
                go_ret
                exact ⟨by rw [hres.out]; rfl, hBt⟩
end Go.Proofs.YtajmfonepnkofaaDoor
