/-
  A letter's copy in the reference. (Printed by gen_nvd.py.)
  Conditions: none.
-/
import Derived.Test.YtkmoefgnejhpoaaNVa
import Derived.Test.YtkmoefgnejhpoaaRegB
import Derived.Test.YtkmoefgnejhpoaaRegI
import Derived.Test.YtkmoefgnejhpoaaNE
namespace Go.Proofs.Ytkmoefgnejhpoaa
open Go.RowKit Rg
set_option linter.unusedVariables false
set_option linter.unusedSimpArgs false

/-- A variable that holds a letter with these slices. -/
def LBox (w : World) (b : Nat) (m : MsgT) (va vb : Value) : Prop := w.heap[b]? = some (.cells #[.int .i64 m.1, .int .i64 m.2.1, .int .i64 m.2.2.1, .int .i64 m.2.2.2.1, .int .i64 m.2.2.2.2.1.1, .int .i64 m.2.2.2.2.1.2.1, .int .i64 m.2.2.2.2.1.2.2.1, .int .i64 m.2.2.2.2.1.2.2.2.1, .int .i64 m.2.2.2.2.1.2.2.2.2, va, vb] 28 (0, 0))
theorem LBox.lt {w : World} {b : Nat} {m : MsgT} {va vb : Value} (h : LBox w b m va vb) : b < w.heap.size := lt_of_heap h
theorem LBox.below {w w' : World} {b K : Nat} {m : MsgT} {va vb : Value} (h : LBox w b m va vb) (hb : Below K w w') (hK : b < K) : LBox w' b m va vb := (hb.block b hK).trans h
theorem LBox.only {w w' : World} {b : Nat} {g : Option Nat} {m : MsgT} {va vb : Value} (h : LBox w b m va vb) (ho : Only w.heap.size g w w') (hne : g ≠ some b) : LBox w' b m va vb := (ho.block b h.lt hne).trans h
theorem LBox.other {w : World} {b d j : Nat} {m : MsgT} {va vb : Value} (h : LBox w b m va vb) (hne : b ≠ d) (u : Value) : LBox (w.setCell ⟨d, j, none⟩ u) b m va vb := (Below.heap_setCell w ⟨d, j, none⟩ u b hne).trans h
theorem LBox.set5 {w : World} {b : Nat} {m : MsgT} {va vb u : Value} (h : LBox w b m va vb) : LBox (w.setCell ⟨b, 9, none⟩ u) b m u vb := by
  have h' : w.heap[b]? = _ := h
  simp [LBox, World.setCell, Array.getElem?_modify, h']
theorem LBox.set6 {w : World} {b : Nat} {m : MsgT} {va vb u : Value} (h : LBox w b m va vb) : LBox (w.setCell ⟨b, 10, none⟩ u) b m va u := by
  have h' : w.heap[b]? = _ := h
  simp [LBox, World.setCell, Array.getElem?_modify, h']
theorem LBox.cells {w : World} {b : Nat} {m : MsgT} {va vb : Value} (h : LBox w b m va vb) : w.cell? ⟨b, 0, none⟩ = some (.int .i64 m.1) ∧ w.cell? ⟨b, 1, none⟩ = some (.int .i64 m.2.1) ∧ w.cell? ⟨b, 2, none⟩ = some (.int .i64 m.2.2.1) ∧ w.cell? ⟨b, 3, none⟩ = some (.int .i64 m.2.2.2.1) ∧ w.cell? ⟨b, 4, none⟩ = some (.int .i64 m.2.2.2.2.1.1) ∧ w.cell? ⟨b, 5, none⟩ = some (.int .i64 m.2.2.2.2.1.2.1) ∧ w.cell? ⟨b, 6, none⟩ = some (.int .i64 m.2.2.2.2.1.2.2.1) ∧ w.cell? ⟨b, 7, none⟩ = some (.int .i64 m.2.2.2.2.1.2.2.2.1) ∧ w.cell? ⟨b, 8, none⟩ = some (.int .i64 m.2.2.2.2.1.2.2.2.2) ∧ w.cell? ⟨b, 9, none⟩ = some (va) ∧ w.cell? ⟨b, 10, none⟩ = some (vb) ∧ w.frozen? ⟨b, 0, none⟩ = false ∧ w.frozen? ⟨b, 1, none⟩ = false ∧ w.frozen? ⟨b, 2, none⟩ = false ∧ w.frozen? ⟨b, 3, none⟩ = false ∧ w.frozen? ⟨b, 4, none⟩ = false ∧ w.frozen? ⟨b, 5, none⟩ = false ∧ w.frozen? ⟨b, 6, none⟩ = false ∧ w.frozen? ⟨b, 7, none⟩ = false ∧ w.frozen? ⟨b, 8, none⟩ = false ∧ w.frozen? ⟨b, 9, none⟩ = false ∧ w.frozen? ⟨b, 10, none⟩ = false := by
  have h' : w.heap[b]? = _ := h
  exact ⟨by simp [World.cell?, h'], by simp [World.cell?, h'], by simp [World.cell?, h'], by simp [World.cell?, h'], by simp [World.cell?, h'], by simp [World.cell?, h'], by simp [World.cell?, h'], by simp [World.cell?, h'], by simp [World.cell?, h'], by simp [World.cell?, h'], by simp [World.cell?, h'], by simp [World.frozen?, h'], by simp [World.frozen?, h'], by simp [World.frozen?, h'], by simp [World.frozen?, h'], by simp [World.frozen?, h'], by simp [World.frozen?, h'], by simp [World.frozen?, h'], by simp [World.frozen?, h'], by simp [World.frozen?, h'], by simp [World.frozen?, h'], by simp [World.frozen?, h']⟩

theorem keep2 (w : World) (b d j : Nat) (u : Value) (us : List Value) (k : Nat) (h1 : k ≠ b) (h2 : k ≠ d) : (putCells (w.setCell ⟨b, j, none⟩ u) d 0 us).heap[k]? = w.heap[k]? :=
  (heap_putCells_other us _ d 0 k h2).trans (Below.heap_setCell w ⟨b, j, none⟩ u k h1)
theorem size2 (w : World) (b d j : Nat) (u : Value) (us : List Value) : (putCells (w.setCell ⟨b, j, none⟩ u) d 0 us).heap.size = w.heap.size := by
  rw [size_putCells]; simp [World.setCell]
theorem vote_row (w : World) {k : Int} {A : Option Addr} {n c : Nat} (y : Cs 2) (hy : y.val = [.int .i64 k, .slice A n c]) : Sl Cs.val 2 (w.alloc (.cells #[.int .i64 k, .slice A n c] 45)) 0 (w.heap.size + 1) (some ⟨w.heap.size, 0, none⟩) [y] :=
  (sl_arr Cs.len w #[.int .i64 k, .slice A n c] 45 [y] (by simp [hy])).mono (Nat.zero_le _) (Nat.le_refl _)
theorem vote_made {w : World} {lo : Nat} {A : Option Addr} {c : Nat} {t : VoteT} {y : Cs 2} (hy : y.val = [.int .i64 t.1, .slice A t.2.length c]) (ho : Own encClaim 7 40 w lo (.slice A t.2.length c) t.2) : voteR w lo w.heap.size y.val t := by
  rw [hy]
  exact ⟨A, t.2.length, c, rfl, ho.rdn encClaim_len⟩
theorem voteSnoc {w4 w5 : World} {o : Obj} {q lo2 hi2 : Nat} {v v5 : Value} {ls : List (Cs 2)} {ts : List VoteT} {y : Cs 2} {t : VoteT} (hll : ls.length = ts.length)
    (hpa : ∀ (i : Nat) (hl : i < ls.length) (ht : i < ts.length), Apart voteR w4 q v.ownBlock ls[i].val ts[i]) (hown : Own Cs.val 2 45 w4 q v ls) (hw5 : Own Cs.val 2 45 w5 q v5 (ls ++ [y])) (hg5 : (w4.alloc o).grownBy w5 v.ownBlock)
    (hloc : v5.ownBlock = v.ownBlock ∨ v5.ownBlock = some (w4.alloc o).heap.size) (h1 : q ≤ lo2) (h2 : hi2 ≤ w4.heap.size) (h3 : ∀ k, v.ownBlock = some k → hi2 ≤ k ∨ k < lo2) (h4 : voteR w4 lo2 hi2 y.val t) : Grow 2 45 voteR w5 q v5 (ts ++ [t]) := by
  have hA := (Below.refl w4.heap.size w4).alloc (Nat.le_refl _) o
  have hk0 : ∀ (i : Nat) (hl : i < ls.length) (ht : i < ts.length), Apart voteR (w4.alloc o) q v.ownBlock ls[i].val ts[i] := fun i hl ht => (hpa i hl ht).keep vote_kept hA.size (fun b _ h2 _ => hA.block b h2)
  exact Grow.snoc vote_kept (lo2 := lo2) (hi2 := hi2) ⟨ls, hown.alloc _, hll, hk0⟩ hk0 hll hw5 hg5 hloc h1 (Nat.le_trans h2 hA.size) h3 (vote_kept.keep h4 fun b _ hb => hA.block b (by omega))
/-- What 'l3Copy' leaves (a word of its own, so that no walk opens it). -/
def CopyPost (m : MsgT) (w : World) (e : Ending) (w' : World) : Prop := ∃ (va vb : Value) (lq : Nat), e = .returned (.agg #[.int .i64 m.1, .int .i64 m.2.1, .int .i64 m.2.2.1, .int .i64 m.2.2.2.1, .int .i64 m.2.2.2.2.1.1, .int .i64 m.2.2.2.2.1.2.1, .int .i64 m.2.2.2.2.1.2.2.1, .int .i64 m.2.2.2.2.1.2.2.2.1, .int .i64 m.2.2.2.2.1.2.2.2.2, va, vb]) ∧ Own encClaim 7 40 w' w.heap.size va m.2.2.2.2.2.1 ∧ Grow 2 45 voteR w' lq vb m.2.2.2.2.2.2 ∧ w.heap.size ≤ lq ∧ (∀ k, va.ownBlock = some k → k < lq) ∧ Below w.heap.size w w'
theorem CopyPost.mk {m : MsgT} {w : World} {e : Ending} {w' : World} (h : ∃ (va vb : Value) (lq : Nat), e = .returned (.agg #[.int .i64 m.1, .int .i64 m.2.1, .int .i64 m.2.2.1, .int .i64 m.2.2.2.1, .int .i64 m.2.2.2.2.1.1, .int .i64 m.2.2.2.2.1.2.1, .int .i64 m.2.2.2.2.1.2.2.1, .int .i64 m.2.2.2.2.1.2.2.2.1, .int .i64 m.2.2.2.2.1.2.2.2.2, va, vb]) ∧ Own encClaim 7 40 w' w.heap.size va m.2.2.2.2.2.1 ∧ Grow 2 45 voteR w' lq vb m.2.2.2.2.2.2 ∧ w.heap.size ≤ lq ∧ (∀ k, va.ownBlock = some k → k < lq) ∧ Below w.heap.size w w') : CopyPost m w e w' := h
set_option maxRecDepth 100000 in
set_option maxHeartbeats 2000000 in
theorem l3Copy_c (m : MsgT) (A B : Option Addr) (n c p d lo hi : Nat) (w : World) (h0 : RdN 7 clR w lo hi A n c m.2.2.2.2.2.1) (h1 : RdN 2 voteR w lo hi B p d m.2.2.2.2.2.2) (hhi : hi ≤ w.heap.size) (hz0 : n ≤ 1048576) (hz1 : p ≤ 1048576) (hz2 : ∀ v ∈ m.2.2.2.2.2.2, v.2.length ≤ 1048576) :
    Calls Try.prog 12 #[.agg #[.int .i64 m.1, .int .i64 m.2.1, .int .i64 m.2.2.1, .int .i64 m.2.2.2.1, .int .i64 m.2.2.2.2.1.1, .int .i64 m.2.2.2.2.1.2.1, .int .i64 m.2.2.2.2.1.2.2.1, .int .i64 m.2.2.2.2.1.2.2.2.1, .int .i64 m.2.2.2.2.1.2.2.2.2, .slice A n c, .slice B p d]] w fun e w' => CopyPost m w e w' := by
  have hn' := hide h0.len
  have hp' := hide h1.len
  have hc2 := h0.cap
  have hd2 := h1.cap
  have hcm := h0.max
  have hdm := h1.max
  unfold maxLen at hcm hdm
  have hb0 : Below w.heap.size w ((w.alloc (.cells #[.int .i64 m.1, .int .i64 m.2.1, .int .i64 m.2.2.1, .int .i64 m.2.2.2.1, .int .i64 m.2.2.2.2.1.1, .int .i64 m.2.2.2.2.1.2.1, .int .i64 m.2.2.2.2.1.2.2.1, .int .i64 m.2.2.2.2.1.2.2.2.1, .int .i64 m.2.2.2.2.1.2.2.2.2, .slice A n c, .slice B p d] 28)).alloc (.cells #[.int .i64 0, .int .i64 0, .int .i64 0, .int .i64 0, .int .i64 0, .int .i64 0, .int .i64 0, .int .i64 0, .int .i64 0, .slice none 0 0, .slice none 0 0] 28)) := ((Below.refl _ _).alloc (Nat.le_refl _) _).alloc (by simp) _
  have hx0 : LBox ((w.alloc (.cells #[.int .i64 m.1, .int .i64 m.2.1, .int .i64 m.2.2.1, .int .i64 m.2.2.2.1, .int .i64 m.2.2.2.2.1.1, .int .i64 m.2.2.2.2.1.2.1, .int .i64 m.2.2.2.2.1.2.2.1, .int .i64 m.2.2.2.2.1.2.2.2.1, .int .i64 m.2.2.2.2.1.2.2.2.2, .slice A n c, .slice B p d] 28)).alloc (.cells #[.int .i64 0, .int .i64 0, .int .i64 0, .int .i64 0, .int .i64 0, .int .i64 0, .int .i64 0, .int .i64 0, .int .i64 0, .slice none 0 0, .slice none 0 0] 28)) w.heap.size m (.slice A n c) (.slice B p d) := ((Below.refl (w.alloc (.cells #[.int .i64 m.1, .int .i64 m.2.1, .int .i64 m.2.2.1, .int .i64 m.2.2.2.1, .int .i64 m.2.2.2.2.1.1, .int .i64 m.2.2.2.2.1.2.1, .int .i64 m.2.2.2.2.1.2.2.1, .int .i64 m.2.2.2.2.1.2.2.2.1, .int .i64 m.2.2.2.2.1.2.2.2.2, .slice A n c, .slice B p d] 28)).heap.size (w.alloc (.cells #[.int .i64 m.1, .int .i64 m.2.1, .int .i64 m.2.2.1, .int .i64 m.2.2.2.1, .int .i64 m.2.2.2.2.1.1, .int .i64 m.2.2.2.2.1.2.1, .int .i64 m.2.2.2.2.1.2.2.1, .int .i64 m.2.2.2.2.1.2.2.2.1, .int .i64 m.2.2.2.2.1.2.2.2.2, .slice A n c, .slice B p d] 28))).alloc (Nat.le_refl _) (.cells #[.int .i64 0, .int .i64 0, .int .i64 0, .int .i64 0, .int .i64 0, .int .i64 0, .int .i64 0, .int .i64 0, .int .i64 0, .slice none 0 0, .slice none 0 0] 28)).block _ (by simp) |>.trans (heap_alloc_new w (.cells #[.int .i64 m.1, .int .i64 m.2.1, .int .i64 m.2.2.1, .int .i64 m.2.2.2.1, .int .i64 m.2.2.2.2.1.1, .int .i64 m.2.2.2.2.1.2.1, .int .i64 m.2.2.2.2.1.2.2.1, .int .i64 m.2.2.2.2.1.2.2.2.1, .int .i64 m.2.2.2.2.1.2.2.2.2, .slice A n c, .slice B p d] 28))
  have hsz : ((w.alloc (.cells #[.int .i64 m.1, .int .i64 m.2.1, .int .i64 m.2.2.1, .int .i64 m.2.2.2.1, .int .i64 m.2.2.2.2.1.1, .int .i64 m.2.2.2.2.1.2.1, .int .i64 m.2.2.2.2.1.2.2.1, .int .i64 m.2.2.2.2.1.2.2.2.1, .int .i64 m.2.2.2.2.1.2.2.2.2, .slice A n c, .slice B p d] 28)).alloc (.cells #[.int .i64 0, .int .i64 0, .int .i64 0, .int .i64 0, .int .i64 0, .int .i64 0, .int .i64 0, .int .i64 0, .int .i64 0, .slice none 0 0, .slice none 0 0] 28)).heap.size = w.heap.size + 2 := by simp
  have hz' := hide hsz
  clear hsz
  have hz2' := hide hz2
  clear hz2
  have hzb : LBox ((w.alloc (.cells #[.int .i64 m.1, .int .i64 m.2.1, .int .i64 m.2.2.1, .int .i64 m.2.2.2.1, .int .i64 m.2.2.2.2.1.1, .int .i64 m.2.2.2.2.1.2.1, .int .i64 m.2.2.2.2.1.2.2.1, .int .i64 m.2.2.2.2.1.2.2.2.1, .int .i64 m.2.2.2.2.1.2.2.2.2, .slice A n c, .slice B p d] 28)).alloc (.cells #[.int .i64 0, .int .i64 0, .int .i64 0, .int .i64 0, .int .i64 0, .int .i64 0, .int .i64 0, .int .i64 0, .int .i64 0, .slice none 0 0, .slice none 0 0] 28)) (w.heap.size + 1) (0, 0, 0, 0, (0, 0, 0, 0, 0), [], []) (.slice none 0 0) (.slice none 0 0) := by
    have := heap_alloc_new (w.alloc (.cells #[.int .i64 m.1, .int .i64 m.2.1, .int .i64 m.2.2.1, .int .i64 m.2.2.2.1, .int .i64 m.2.2.2.2.1.1, .int .i64 m.2.2.2.2.1.2.1, .int .i64 m.2.2.2.2.1.2.2.1, .int .i64 m.2.2.2.2.1.2.2.2.1, .int .i64 m.2.2.2.2.1.2.2.2.2, .slice A n c, .slice B p d] 28)) (.cells #[.int .i64 0, .int .i64 0, .int .i64 0, .int .i64 0, .int .i64 0, .int .i64 0, .int .i64 0, .int .i64 0, .int .i64 0, .slice none 0 0, .slice none 0 0] 28)
    simpa [LBox] using this
  go_enter Try.func12, Try.ntmps12
  have hE := (Below.refl ((w.alloc (.cells #[.int .i64 m.1, .int .i64 m.2.1, .int .i64 m.2.2.1, .int .i64 m.2.2.2.1, .int .i64 m.2.2.2.2.1.1, .int .i64 m.2.2.2.2.1.2.1, .int .i64 m.2.2.2.2.1.2.2.1, .int .i64 m.2.2.2.2.1.2.2.2.1, .int .i64 m.2.2.2.2.1.2.2.2.2, .slice A n c, .slice B p d] 28)).alloc (.cells #[.int .i64 0, .int .i64 0, .int .i64 0, .int .i64 0, .int .i64 0, .int .i64 0, .int .i64 0, .int .i64 0, .int .i64 0, .slice none 0 0, .slice none 0 0] 28)).heap.size ((w.alloc (.cells #[.int .i64 m.1, .int .i64 m.2.1, .int .i64 m.2.2.1, .int .i64 m.2.2.2.1, .int .i64 m.2.2.2.2.1.1, .int .i64 m.2.2.2.2.1.2.1, .int .i64 m.2.2.2.2.1.2.2.1, .int .i64 m.2.2.2.2.1.2.2.2.1, .int .i64 m.2.2.2.2.1.2.2.2.2, .slice A n c, .slice B p d] 28)).alloc (.cells #[.int .i64 0, .int .i64 0, .int .i64 0, .int .i64 0, .int .i64 0, .int .i64 0, .int .i64 0, .int .i64 0, .int .i64 0, .slice none 0 0, .slice none 0 0] 28))).alloc (Nat.le_refl _) (.cells #[] 40)
  have hsl0 : Sl encClaim 7 (((w.alloc (.cells #[.int .i64 m.1, .int .i64 m.2.1, .int .i64 m.2.2.1, .int .i64 m.2.2.2.1, .int .i64 m.2.2.2.2.1.1, .int .i64 m.2.2.2.2.1.2.1, .int .i64 m.2.2.2.2.1.2.2.1, .int .i64 m.2.2.2.2.1.2.2.2.1, .int .i64 m.2.2.2.2.1.2.2.2.2, .slice A n c, .slice B p d] 28)).alloc (.cells #[.int .i64 0, .int .i64 0, .int .i64 0, .int .i64 0, .int .i64 0, .int .i64 0, .int .i64 0, .int .i64 0, .int .i64 0, .slice none 0 0, .slice none 0 0] 28)).alloc (.cells #[] 40)) lo hi A m.2.2.2.2.2.1 := (h0.below (flat_kept _) hb0 hhi |>.below (flat_kept _) hE (by rw [hz'.out]; omega)).sl
  have how0 : Own encClaim 7 40 (((w.alloc (.cells #[.int .i64 m.1, .int .i64 m.2.1, .int .i64 m.2.2.1, .int .i64 m.2.2.2.1, .int .i64 m.2.2.2.2.1.1, .int .i64 m.2.2.2.2.1.2.1, .int .i64 m.2.2.2.2.1.2.2.1, .int .i64 m.2.2.2.2.1.2.2.2.1, .int .i64 m.2.2.2.2.1.2.2.2.2, .slice A n c, .slice B p d] 28)).alloc (.cells #[.int .i64 0, .int .i64 0, .int .i64 0, .int .i64 0, .int .i64 0, .int .i64 0, .int .i64 0, .int .i64 0, .int .i64 0, .slice none 0 0, .slice none 0 0] 28)).alloc (.cells #[] 40)) (w.heap.size + 2) (.slice (some ⟨w.heap.size + 2, 0, none⟩) 0 0) [] := by
    have := own_empty encClaim 7 40 ((w.alloc (.cells #[.int .i64 m.1, .int .i64 m.2.1, .int .i64 m.2.2.1, .int .i64 m.2.2.2.1, .int .i64 m.2.2.2.2.1.1, .int .i64 m.2.2.2.2.1.2.1, .int .i64 m.2.2.2.2.1.2.2.1, .int .i64 m.2.2.2.2.1.2.2.2.1, .int .i64 m.2.2.2.2.1.2.2.2.2, .slice A n c, .slice B p d] 28)).alloc (.cells #[.int .i64 0, .int .i64 0, .int .i64 0, .int .i64 0, .int .i64 0, .int .i64 0, .int .i64 0, .int .i64 0, .int .i64 0, .slice none 0 0, .slice none 0 0] 28))
    rw [hz'.out] at this
    exact this
  have hz3' : Hid ((((w.alloc (.cells #[.int .i64 m.1, .int .i64 m.2.1, .int .i64 m.2.2.1, .int .i64 m.2.2.2.1, .int .i64 m.2.2.2.2.1.1, .int .i64 m.2.2.2.2.1.2.1, .int .i64 m.2.2.2.2.1.2.2.1, .int .i64 m.2.2.2.2.1.2.2.2.1, .int .i64 m.2.2.2.2.1.2.2.2.2, .slice A n c, .slice B p d] 28)).alloc (.cells #[.int .i64 0, .int .i64 0, .int .i64 0, .int .i64 0, .int .i64 0, .int .i64 0, .int .i64 0, .int .i64 0, .int .i64 0, .slice none 0 0, .slice none 0 0] 28)).alloc (.cells #[] 40)).heap.size = w.heap.size + 3) := hide (by simp)
  go_wp2_with (first
    | (at_builtin; refine wpList_app encClaim_len (by omega) encClaim_one rfl _ _ 25 rfl 40 _ 56 Try.underlying25 infoClaimD rfl (w.heap.size + 2) _ [] rfl how0 lo hi A m.2.2.2.2.2.1 n c rfl hn'.out hsl0 ?h1 ?h2 ?_)
    | fail)
  case h1 => have := hn'.out; simp [maxLen]; omega
  case h2 => rw [hz3'.out]; omega
  intro va w1 ho1 hg1 hb1
  try simp only [List.nil_append] at ho1
  obtain ⟨Av, cv, rfl, _, hcv, _⟩ := ho1.form
  unfold maxLen at hcv
  have hbE : Below w.heap.size w w1 := (hb0.trans (hE.mono (by rw [hz'.out]; omega))).trans (hb1.mono (by omega))
  have hx1 : LBox w1 w.heap.size m (.slice A n c) (.slice B p d) := (hx0.below hE (by rw [hz'.out]; omega)).below hb1 (by omega)
  have hzb1 : LBox w1 (w.heap.size + 1) (0, 0, 0, 0, (0, 0, 0, 0, 0), [], []) (.slice none 0 0) (.slice none 0 0) := (hzb.below hE (by rw [hz'.out]; omega)).below hb1 (by omega)
  obtain ⟨x0, x1, x2, x3, x4, x5, x6, x7, x8, x9, x10, xf0, xf1, xf2, xf3, xf4, xf5, xf6, xf7, xf8, xf9, xf10⟩ := hx1.cells
  have hl1 := hzb1.lt
  have hx2 := hx1.set5 (u := (.slice Av m.2.2.2.2.2.1.length cv))
  have hzb2 := hzb1.other (d := w.heap.size) (j := 9) (by omega) (.slice Av m.2.2.2.2.2.1.length cv)
  have ho2 : Own encClaim 7 40 (w1.setCell ⟨w.heap.size, 9, none⟩ (.slice Av m.2.2.2.2.2.1.length cv)) (w.heap.size + 2) (.slice Av m.2.2.2.2.2.1.length cv) m.2.2.2.2.2.1 := ho1.keep (fun b hb => Below.heap_setCell w1 ⟨w.heap.size, 9, none⟩ (.slice Av m.2.2.2.2.2.1.length cv) b (by have := (ho1.lt b hb).1; simp; omega))
  have hB2 : Below w.heap.size w (w1.setCell ⟨w.heap.size, 9, none⟩ (.slice Av m.2.2.2.2.2.1.length cv)) := hbE.setCell (Nat.le_refl _) _
  have hzz : (w1.setCell ⟨w.heap.size, 9, none⟩ (.slice Av m.2.2.2.2.2.1.length cv)).heap.size = w1.heap.size := by simp
  have hzz' := hide hzz
  have hgw0 : Grow 2 45 voteR ((w1.setCell ⟨w.heap.size, 9, none⟩ (.slice Av m.2.2.2.2.2.1.length cv)).alloc (.cells #[] 45)) w1.heap.size (.slice (some ⟨w1.heap.size, 0, none⟩) 0 0) [] := by
    have := Grow.empty 2 45 voteR (w1.setCell ⟨w.heap.size, 9, none⟩ (.slice Av m.2.2.2.2.2.1.length cv))
    rw [hzz] at this
    exact this
  have hbq0 : Below w1.heap.size (w1.setCell ⟨w.heap.size, 9, none⟩ (.slice Av m.2.2.2.2.2.1.length cv)) ((w1.setCell ⟨w.heap.size, 9, none⟩ (.slice Av m.2.2.2.2.2.1.length cv)).alloc (.cells #[] 45)) := (Below.refl _ _).alloc (by rw [hzz]; exact Nat.le_refl _) _
  clear hzz hx0 hzb hE hsl0 how0 hb0 hg1 hb1 hx1 hzb1 ho1 hbE
  go_wp2_with fail
  generalize (w1.setCell ⟨w.heap.size, 9, none⟩ (.slice Av m.2.2.2.2.2.1.length cv)) = w2 at *
  generalize hw3 : w2.alloc (.cells #[] 45) = w3 at *
  clear hw3
  have hq : w1.heap.size = w2.heap.size := hzz'.out.symm
  generalize w1.heap.size = q at *
  have hlo2 : w.heap.size + 1 < q := hl1
  go_loopw [3, 4] (fun tv iv wr => ∃ i : Nat, i ≤ p ∧ iv = .int .i64 (i : Int) ∧ Grow 2 45 voteR wr q tv (m.2.2.2.2.2.2.take i) ∧ Below q w2 wr) (fun _ iv _ => p - (intOf iv).toNat)
  case atStart => exact ⟨0, Nat.zero_le _, rfl, hgw0, hbq0⟩
  case round =>
    obtain ⟨i, hip, rfl, hgw, hbr⟩ := hrel
    have hxr := hx2.below hbr (by omega)
    have hzr := hbr.size
    obtain ⟨x0, x1, x2, x3, x4, x5, x6, x7, x8, x9, x10, xf0, xf1, xf2, xf3, xf4, xf5, xf6, xf7, xf8, xf9, xf10⟩ := hxr.cells
    by_cases hlt : i < p
    · have hlx : i < m.2.2.2.2.2.2.length := by have := hp'.out; omega
      obtain ⟨b', off, rfl, hlo, hbh⟩ := h1.addr hlx
      have hBr := hB2.trans (hbr.mono (by omega))
      obtain ⟨A1, n1, c1, a0, a1, r0⟩ := (h1.below vote_kept hBr hhi).vote hlx
      have hm' := hide r0.len
      have hm1 := r0.cap
      have hm2 := r0.max
      unfold maxLen at hm2
      have hcl : Hid (m.2.2.2.2.2.2[i].2.length ≤ 1048576) := hide (hz2'.out _ (List.getElem_mem hlx))
      have htk : Hid (m.2.2.2.2.2.2.take (i + 1) = m.2.2.2.2.2.2.take i ++ [m.2.2.2.2.2.2[i]]) := hide (List.take_succ_eq_append_getElem hlx)
      have htl : Hid ((m.2.2.2.2.2.2.take i).length = i) := hide (by rw [List.length_take]; omega)
      have hqr : q ≤ wr.heap.size := by omega
      have hoE : Own encClaim 7 40 (wr.drew.alloc (.cells #[] 40)) wr.heap.size (.slice (some ⟨wr.heap.size, 0, none⟩) 0 0) [] := own_empty encClaim 7 40 wr.drew
      have hbE : Below wr.heap.size wr (wr.drew.alloc (.cells #[] 40)) := (Below.refl _ _).drew.alloc (Nat.le_refl _) _
      have hslE : Sl encClaim 7 (wr.drew.alloc (.cells #[] 40)) lo hi A1 m.2.2.2.2.2.2[i].2 := (r0.below (flat_kept _) hbE (Nat.le_trans hhi hBr.size)).sl
      have hvlt := hide hgw.lt
      have hq' := hide hq
      clear hq
      go_wp2
      refine wp_region_T (SinceB (q) _) [28, 45] [] [20, 22, 24, 27, 29, 31] [0, 1, 2, 3, 4, 5, 6, 8, 9, 10, 11, 12, 13, 7, 14, 15, 16, 17, 18] (by kernel_rfl) (by kernel_rfl) (by kernel_rfl) (SinceB.drew _ _) ?_; simp only [pickL, List.getElem?_cons_succ, List.getElem?_cons_zero]
      go_wp2_with (first
        | ((with_reducible refine wpT_xs0 ?_ ?_ ?_); (focus rfl); (focus rfl); intro K hK; refine wp_app encClaim_len (by omega) encClaim_one _ _ 25 rfl 40 _ 56 Try.underlying25 infoClaimD rfl wr.heap.size _ [] rfl hoE lo hi A1 m.2.2.2.2.2.2[i].2 n1 c1 rfl hm'.out hslE (by have := hm'.out; have := hcl.out; simp [maxLen]; omega) (by simp) ?_; intro v4 w4 ho4 hg4 hb4; (try simp only [List.nil_append] at ho4); obtain ⟨A4, c4, rfl, _, _, _⟩ := ho4.form; have hbw4 : Below wr.heap.size wr w4 := hbE.trans hb4; have hS4 : SinceB q wr w4 := (SinceB.refl q wr).below hbw4 hqr; obtain ⟨ls, hown, hll, hpa⟩ := hgw.below vote_kept hbw4 (Nat.le_refl _); obtain ⟨y, hy⟩ : ∃ y : Cs 2, y.val = [.int .i64 m.2.2.2.2.2.2[i].1, .slice A4 m.2.2.2.2.2.2[i].2.length c4] := ⟨⟨[.int .i64 m.2.2.2.2.2.2[i].1, .slice A4 m.2.2.2.2.2.2[i].2.length c4], rfl, by intro u hu; simp at hu; rcases hu with rfl | rfl <;> rfl⟩, rfl⟩; have hslV := vote_row w4 y hy; have hvR : voteR w4 wr.heap.size w4.heap.size y.val m.2.2.2.2.2.2[i] := vote_made hy ho4; have hll' := hide hll; have hpa' := hide hpa; have hvR' := hide hvR; have hz4 := hbw4.size; clear hll hpa hvR hy ho4 hg4 hb4; have hK := hK)
        | ((with_reducible refine wpT_xs0 ?_ ?_ ?_); (focus rfl); (focus rfl); intro K hK; refine wp_appG Cs.len (by omega) Cs.one _ _ 26 rfl 45 _ 32 Try.underlying26 infoVoteD rfl q _ ls rfl (hown.alloc _) 0 _ _ [y] _ _ rfl rfl hslV (by have := hll'.out; have := htl.out; simp [maxLen]; omega) (by simp; omega) ?_; intro v5 w5 hw5 hg5 hb5 hloc; have hgr := hide (voteSnoc hll'.out hpa'.out hown hw5 hg5 hloc hqr (Nat.le_refl _) (fun k hk => .inr (hvlt.out k hk).2) hvR'.out); have hbw5 : Below q wr w5 := (hbw4.mono hqr).trans (((Below.refl w4.heap.size w4).alloc (Nat.le_refl _) _ |>.mono (Nat.le_trans hqr hz4)).trans hb5); have hS5 : SinceB q wr w5 := (SinceB.refl q wr).below hbw5 (Nat.le_refl _); have hK := hK)
        | (with_reducible refine SinceB.and_ ?_ ?_; (focus (repeat (first | (with_reducible exact SinceB.refl _ _) | (with_reducible assumption) | (with_reducible refine SinceB.drewR ?_) | ((with_reducible refine SinceB.alloc ?_ ?_ _); rotate_left; (focus (first | (with_reducible assumption) | (simp; done) | (simp; omega) | omega))) | ((with_reducible refine SinceB.set ?_ ?_ _); rotate_left; (focus (first | omega | (simp; done) | (simp; omega))))))); intro hS) | ((with_reducible refine wpT_noL ?_ ?_); (focus (first | exact wanted_no _ _ _ rfl rfl rfl | exact wanted_un _ _ _ rfl rfl rfl)); simp only [setO, List.set_cons_succ, List.set_cons_zero]) | ((with_reducible refine wpT_q0 ?_ ?_ ?_ ?_); (focus rfl); (focus rfl); (focus rfl); intro K hK) | ((with_reducible refine wpT_i ?_ ?_); (focus (refine ⟨_, _, _, _, _, _, _, _, rfl, rfl, rfl, rfl, rfl, ?_⟩; omega)); intro K hK) | ((with_reducible apply wpT_lB); (focus rfl); (focus rfl); (focus rfl); (focus rfl); (focus (first | exact SinceB.drew _ _ | (with_reducible assumption))); (focus (simp <;> omega)); (focus go_simp); intro K hK) | ((with_reducible apply wpT_lwB); (focus exact wanted_yes _ _ _ rfl rfl rfl); (focus rfl); (focus rfl); (focus rfl); (focus (first | exact SinceB.drew _ _ | (with_reducible assumption))); (focus (simp <;> omega)); (focus go_simp); intro K hK) | ((with_reducible refine wpT_xs0 ?_ ?_ ?_); (focus rfl); (focus rfl); intro K hK) | ((with_reducible refine wpT_q1 ?_ ?_ ?_ ?_); (focus exact wanted_yes _ _ _ rfl rfl rfl); (focus rfl); (focus rfl); intro K hK) | ((with_reducible refine wpT_xs1 ?_ ?_ ?_); (focus exact wanted_yes _ _ _ rfl rfl rfl); (focus rfl); intro K hK) | ((with_reducible refine wpT_nil ?_); try dsimp only)
        | fail)
      go_roundw
      case rel => exact ⟨i + 1, by omega, by go_num, by rw [htk.out]; exact hgr.out, hbr.trans hbw5⟩
      case measure => simp [intOf]; omega
    · obtain rfl : i = p := by omega
      have htk : Hid (m.2.2.2.2.2.2.take i = m.2.2.2.2.2.2) := hide (by rw [hp'.out, List.take_length])
      rw [htk.out] at hgw
      have hzb3 := hzb2.below hbr hlo2
      have hB3 := hB2.trans (hbr.mono (by omega))
      have ho3 := ho2.below hbr (by omega)
      have hva : ∀ k, (Value.ownBlock (.slice Av m.2.2.2.2.2.1.length cv)) = some k → k < q := fun k hk => by have := (ho2.lt k hk).2; omega
      have hva' := hide hva
      have hl3 := hzb3.lt
      have hq' := hide hq
      clear hq hva
      have hxr := hx2.below hbr (by omega)
      obtain ⟨x0, x1, x2, x3, x4, x5, x6, x7, x8, x9, x10, xf0, xf1, xf2, xf3, xf4, xf5, xf6, xf7, xf8, xf9, xf10⟩ := hxr.cells
      obtain ⟨y0, y1, y2, y3, y4, y5, y6, y7, y8, y9, y10, yf0, yf1, yf2, yf3, yf4, yf5, yf6, yf7, yf8, yf9, yf10⟩ := hzb3.cells
      obtain ⟨Bv, cb, hvb, _, hcb, _⟩ := hgw.form
      subst hvb
      unfold maxLen at hcb
      have hsz := hbr.size
      have hkeep := hide (fun k (h1 : k ≠ w.heap.size) (h2 : k ≠ w.heap.size + 1) => keep2 wr w.heap.size (w.heap.size + 1) 10 (.slice Bv m.2.2.2.2.2.2.length cb) [.int .i64 m.1, .int .i64 m.2.1, .int .i64 m.2.2.1, .int .i64 m.2.2.2.1, .int .i64 m.2.2.2.2.1.1, .int .i64 m.2.2.2.2.1.2.1, .int .i64 m.2.2.2.2.1.2.2.1, .int .i64 m.2.2.2.2.1.2.2.2.1, .int .i64 m.2.2.2.2.1.2.2.2.2, .slice Av m.2.2.2.2.2.1.length cv, .slice Bv m.2.2.2.2.2.2.length cb] k h1 h2)
      have hw2q : w2.heap.size = q := hq'.out.symm
      have hw2q' := hide hw2q
      clear hw2q
      have hgw' := hide hgw
      have ho3' := hide ho3
      have hB3' := hide hB3
      clear hgw ho3 hB3
      go_wp2
      exact bodyPost_ret (v := .agg #[.int .i64 m.1, .int .i64 m.2.1, .int .i64 m.2.2.1, .int .i64 m.2.2.2.1, .int .i64 m.2.2.2.2.1.1, .int .i64 m.2.2.2.2.1.2.1, .int .i64 m.2.2.2.2.1.2.2.1, .int .i64 m.2.2.2.2.1.2.2.2.1, .int .i64 m.2.2.2.2.1.2.2.2.2, .slice Av m.2.2.2.2.2.1.length cv, .slice Bv m.2.2.2.2.2.2.length cb]) (by simp [results, Try.results12, go_sem, x0, x1, x2, x3, x4, x5, x6, x7, x8, x9, x10, xf0, xf1, xf2, xf3, xf4, xf5, xf6, xf7, xf8, xf9, xf10, y0, y1, y2, y3, y4, y5, y6, y7, y8, y9, y10, yf0, yf1, yf2, yf3, yf4, yf5, yf6, yf7, yf8, yf9, yf10]) rfl (CopyPost.mk ⟨_, _, q, rfl,
        (ho3'.out.keep (fun b hb => hkeep.out b (by have := (ho3'.out.lt b hb).1; omega) (by have := (ho3'.out.lt b hb).1; omega))).mono (by omega),
        (hgw'.out.keep vote_kept (Nat.le_of_eq (size2 wr w.heap.size (w.heap.size + 1) 10 (.slice Bv m.2.2.2.2.2.2.length cb) [.int .i64 m.1, .int .i64 m.2.1, .int .i64 m.2.2.1, .int .i64 m.2.2.2.1, .int .i64 m.2.2.2.2.1.1, .int .i64 m.2.2.2.2.1.2.1, .int .i64 m.2.2.2.2.1.2.2.1, .int .i64 m.2.2.2.2.1.2.2.2.1, .int .i64 m.2.2.2.2.1.2.2.2.2, .slice Av m.2.2.2.2.2.1.length cv, .slice Bv m.2.2.2.2.2.2.length cb]).symm) (fun b h1 h2 => hkeep.out b (by omega) (by omega))),
        by omega, hva'.out,
        below_putCells [.int .i64 m.1, .int .i64 m.2.1, .int .i64 m.2.2.1, .int .i64 m.2.2.2.1, .int .i64 m.2.2.2.2.1.1, .int .i64 m.2.2.2.2.1.2.1, .int .i64 m.2.2.2.2.1.2.2.1, .int .i64 m.2.2.2.2.1.2.2.2.1, .int .i64 m.2.2.2.2.1.2.2.2.2, .slice Av m.2.2.2.2.2.1.length cv, .slice Bv m.2.2.2.2.2.2.length cb] (g := w.heap.size + 1) (j := 0) (hB3'.out.setCell (p := ⟨w.heap.size, 10, none⟩) (Nat.le_refl _) _) (by omega)⟩)
end Go.Proofs.Ytkmoefgnejhpoaa
