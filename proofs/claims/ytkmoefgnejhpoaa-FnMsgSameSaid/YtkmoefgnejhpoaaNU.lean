/-
  What is picked at a place by votes, in both packages. (Printed by gen_nu.py.)
  Conditions: none.
-/
import Derived.Test.YtkmoefgnejhpoaaNG
namespace Go.Proofs.Ytkmoefgnejhpoaa
open Go.RowKit Rg
set_option linter.unusedVariables false
set_option linter.unusedSimpArgs false

/-- Variables of the call's own that hold an ask, a claim. -/
def BxQ (w : World) (b : Nat) (r : ReqV) : Prop := w.heap[b]? = some (.cells #[.int .i64 r.1, .int .i64 r.2.1, .int .i64 r.2.2.1, .int .i64 r.2.2.2.1, .int .i64 r.2.2.2.2] 24 (0, 0))
def BxC (w : World) (b : Nat) (t : ClaimT) : Prop := w.heap[b]? = some (.cells #[.int .i64 t.1, .int .i64 t.2.1, .int .i64 t.2.2.1, .int .i64 t.2.2.2.1, .int .i64 t.2.2.2.2.1, .int .i64 t.2.2.2.2.2.1, .int .i64 t.2.2.2.2.2.2] 40 (0, 0))
theorem BxQ.lt {w : World} {b : Nat} {r : ReqV} (h : BxQ w b r) : b < w.heap.size := lt_of_heap h
theorem BxC.lt {w : World} {b : Nat} {t : ClaimT} (h : BxC w b t) : b < w.heap.size := lt_of_heap h
theorem BxQ.below {w w' : World} {b : Nat} {r : ReqV} (h : BxQ w b r) (hb : Below w.heap.size w w') : BxQ w' b r := (hb.block b h.lt).trans h
theorem BxC.below {w w' : World} {b : Nat} {t : ClaimT} (h : BxC w b t) (hb : Below w.heap.size w w') : BxC w' b t := (hb.block b h.lt).trans h
theorem BxQ.cells {w : World} {b : Nat} {r : ReqV} (h : BxQ w b r) : w.cell? ⟨b, 0, none⟩ = some (.int .i64 r.1) ∧ w.cell? ⟨b, 1, none⟩ = some (.int .i64 r.2.1) ∧ w.cell? ⟨b, 2, none⟩ = some (.int .i64 r.2.2.1) ∧ w.cell? ⟨b, 3, none⟩ = some (.int .i64 r.2.2.2.1) ∧ w.cell? ⟨b, 4, none⟩ = some (.int .i64 r.2.2.2.2) ∧ w.frozen? ⟨b, 0, none⟩ = false ∧ w.frozen? ⟨b, 1, none⟩ = false ∧ w.frozen? ⟨b, 2, none⟩ = false ∧ w.frozen? ⟨b, 3, none⟩ = false ∧ w.frozen? ⟨b, 4, none⟩ = false := by
  simp [BxQ] at h
  simp [World.cell?, World.frozen?, h]
theorem BxC.cells {w : World} {b : Nat} {t : ClaimT} (h : BxC w b t) : w.cell? ⟨b, 0, none⟩ = some (.int .i64 t.1) ∧ w.cell? ⟨b, 1, none⟩ = some (.int .i64 t.2.1) ∧ w.cell? ⟨b, 2, none⟩ = some (.int .i64 t.2.2.1) ∧ w.cell? ⟨b, 3, none⟩ = some (.int .i64 t.2.2.2.1) ∧ w.cell? ⟨b, 4, none⟩ = some (.int .i64 t.2.2.2.2.1) ∧ w.cell? ⟨b, 5, none⟩ = some (.int .i64 t.2.2.2.2.2.1) ∧ w.cell? ⟨b, 6, none⟩ = some (.int .i64 t.2.2.2.2.2.2) ∧ w.frozen? ⟨b, 0, none⟩ = false ∧ w.frozen? ⟨b, 1, none⟩ = false ∧ w.frozen? ⟨b, 2, none⟩ = false ∧ w.frozen? ⟨b, 3, none⟩ = false ∧ w.frozen? ⟨b, 4, none⟩ = false ∧ w.frozen? ⟨b, 5, none⟩ = false ∧ w.frozen? ⟨b, 6, none⟩ = false := by
  simp [BxC] at h
  simp [World.cell?, World.frozen?, h]
theorem BxQ.set {w : World} {b : Nat} {r : ReqV} (h : BxQ w b r) (s : ReqV) : BxQ (((((w.setCell ⟨b, 0, none⟩ (.int .i64 s.1)).setCell ⟨b, 1, none⟩ (.int .i64 s.2.1)).setCell ⟨b, 2, none⟩ (.int .i64 s.2.2.1)).setCell ⟨b, 3, none⟩ (.int .i64 s.2.2.2.1)).setCell ⟨b, 4, none⟩ (.int .i64 s.2.2.2.2)) b s := by
  simp [BxQ] at h ⊢
  simp [World.setCell, Array.getElem?_modify, h]
theorem BxQ.keep5 {w : World} {b c : Nat} {r : ReqV} (h : BxQ w b r) (hne : b ≠ c) (a0 a1 a2 a3 a4 : Value) : BxQ (((((w.setCell ⟨c, 0, none⟩ a0).setCell ⟨c, 1, none⟩ a1).setCell ⟨c, 2, none⟩ a2).setCell ⟨c, 3, none⟩ a3).setCell ⟨c, 4, none⟩ a4) b r :=
  ((((((Below.heap_setCell _ ⟨c, 4, none⟩ _ b hne).trans (Below.heap_setCell _ ⟨c, 3, none⟩ _ b hne)).trans (Below.heap_setCell _ ⟨c, 2, none⟩ _ b hne)).trans (Below.heap_setCell _ ⟨c, 1, none⟩ _ b hne)).trans (Below.heap_setCell _ ⟨c, 0, none⟩ _ b hne)).trans h)
theorem BxC.set {w : World} {b : Nat} {t : ClaimT} (h : BxC w b t) (s : ClaimT) : BxC (((((((w.setCell ⟨b, 0, none⟩ (.int .i64 s.1)).setCell ⟨b, 1, none⟩ (.int .i64 s.2.1)).setCell ⟨b, 2, none⟩ (.int .i64 s.2.2.1)).setCell ⟨b, 3, none⟩ (.int .i64 s.2.2.2.1)).setCell ⟨b, 4, none⟩ (.int .i64 s.2.2.2.2.1)).setCell ⟨b, 5, none⟩ (.int .i64 s.2.2.2.2.2.1)).setCell ⟨b, 6, none⟩ (.int .i64 s.2.2.2.2.2.2)) b s := by
  simp [BxC] at h ⊢
  simp [World.setCell, Array.getElem?_modify, h]
theorem BxQ.made (w : World) (r : ReqV) : BxQ (w.alloc (.cells #[.int .i64 r.1, .int .i64 r.2.1, .int .i64 r.2.2.1, .int .i64 r.2.2.2.1, .int .i64 r.2.2.2.2] 24)) w.heap.size r := heap_alloc_new w _
theorem BxC.made (w : World) (t : ClaimT) : BxC (w.alloc (.cells #[.int .i64 t.1, .int .i64 t.2.1, .int .i64 t.2.2.1, .int .i64 t.2.2.2.1, .int .i64 t.2.2.2.2.1, .int .i64 t.2.2.2.2.2.1, .int .i64 t.2.2.2.2.2.2] 40)) w.heap.size t := heap_alloc_new w _

theorem clsOf_succ (ts : List VoteT) (k : Nat) (hk : k < ts.length) : clsOf (ts.take (k + 1)) = clsOf (ts.take k) ++ ts[k].2 := by
  unfold clsOf
  rw [List.take_succ_eq_append_getElem hk, List.flatMap_append, List.flatMap_cons, List.flatMap_nil, List.append_nil]
theorem clsOf_all {ts : List VoteT} {n : Nat} (hn : n = ts.length) : clsOf (ts.take n) = clsOf ts := by
  rw [List.take_of_length_le (by omega)]
/-- The claims that were looked at: those of the first i votes, and the first j of the next. -/
def seen (ts : List VoteT) (i j : Nat) (h : i < ts.length) : List ClaimT := clsOf (ts.take i) ++ (ts[i].2).take j
theorem seen_zero (ts : List VoteT) (i : Nat) (h : i < ts.length) : seen ts i 0 h = clsOf (ts.take i) := by simp [seen]
theorem seen_succ (ts : List VoteT) (i j : Nat) (h : i < ts.length) (hj : j < ts[i].2.length) : seen ts i (j + 1) h = seen ts i j h ++ [ts[i].2[j]] := by
  unfold seen
  rw [List.take_succ_eq_append_getElem hj, List.append_assoc]
theorem seen_all {ts : List VoteT} {i m : Nat} (h : i < ts.length) (hm : m = ts[i].2.length) : seen ts i m h = clsOf (ts.take (i + 1)) := by
  unfold seen
  have h9 : (ts[i].2).take m = ts[i].2 := List.take_of_length_le (by omega)
  rw [clsOf_succ ts i h, h9]
theorem pickS_snoc (seq : Int) (cs : List ClaimT) (c : ClaimT) : pickS seq (cs ++ [c]) = pickStep seq (pickS seq cs) c := by
  unfold pickS
  rw [List.foldl_append]; rfl
theorem reachB_snoc (seq : Int) (cs : List ClaimT) (c : ClaimT) : reachB seq (cs ++ [c]) = (reachB seq cs || decide (seq ≤ c.1)) := by simp [reachB]
theorem step_yes {seq : Int} {s : PickS} {c : ClaimT} (h1 : (c.1 == seq) = true) (h2 : s.1 = false ∨ decide (s.2.1 < c.2.1) = true) : pickStep seq s c = (true, c.2.1, c.2.2) := by
  unfold pickStep
  rw [if_pos]
  exact ⟨by simpa using h1, by rcases h2 with h | h; exact .inl h; exact .inr (by simpa using h)⟩
theorem step_no1 {seq : Int} {s : PickS} {c : ClaimT} (h1 : (c.1 == seq) = false) : pickStep seq s c = s := by
  unfold pickStep
  rw [if_neg]
  rintro ⟨h, _⟩
  simp [h] at h1
theorem step_no2 {seq : Int} {s : PickS} {c : ClaimT} (h2 : s.1 = true) (h3 : decide (s.2.1 < c.2.1) = false) : pickStep seq s c = s := by
  unfold pickStep
  rw [if_neg]
  rintro ⟨_, h | h⟩
  · rw [h2] at h; cases h
  · simp [h] at h3

end Go.Proofs.Ytkmoefgnejhpoaa
