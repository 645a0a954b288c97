/-
  What the law on same letters draws: 'DrawMsgSame'. (Printed by gen_nvg.py.)
  Conditions: none.
-/
import Derived.Test.YtkmoefgnejhpoaaNVf
namespace Go.Proofs.Ytkmoefgnejhpoaa
open Go.RowKit Rg
set_option linter.unusedVariables false
set_option linter.unusedSimpArgs false

/-- A letter that reads: its slices lie between two numbers. -/
structure Read2 (w : World) (lo hi : Nat) (m : MsgT) (A : Option Addr) (n c : Nat) (B : Option Addr) (p d : Nat) : Prop where
  cl : RdN 7 clR w lo hi A n c m.2.2.2.2.2.1
  vo : RdN 2 voteR w lo hi B p d m.2.2.2.2.2.2
  n11 : n ≤ 11
  p10 : p ≤ 10
  small : ∀ v ∈ m.2.2.2.2.2.2, v.2.length ≤ 10
theorem Read2.keep {w w' : World} {lo lo' hi hi' : Nat} {m : MsgT} {A : Option Addr} {n c : Nat} {B : Option Addr} {p d : Nat} (h : Read2 w lo hi m A n c B p d) (hl : lo' ≤ lo) (hz : hi ≤ hi') (hk : ∀ b, lo ≤ b → b < hi → w'.heap[b]? = w.heap[b]?) : Read2 w' lo' hi' m A n c B p d :=
  ⟨(h.cl.keep (flat_kept _) hk).mono (flat_kept _) hl hz, (h.vo.keep vote_kept hk).mono vote_kept hl hz, h.n11, h.p10, h.small⟩
theorem ReadM.two {w : World} {lo : Nat} {m : MsgT} {A : Option Addr} {n c : Nat} {B : Option Addr} {p d : Nat} (h : ReadM w lo m A n c B p d) : Read2 w lo w.heap.size m A n c B p d := ⟨h.cl, h.vo, by have := h.n10; omega, h.p10, h.small⟩
/-- What 'DrawMsgSame' leaves. -/
def SamePost (w : World) (e : Ending) (w' : World) : Prop := ∃ (m x : MsgT) (A : Option Addr) (n c : Nat) (B : Option Addr) (p d : Nat) (A' : Option Addr) (n' c' : Nat) (B' : Option Addr) (p' d' : Nat),
  e = .returned (.tuple #[.agg #[.int .i64 m.1, .int .i64 m.2.1, .int .i64 m.2.2.1, .int .i64 m.2.2.2.1, .int .i64 m.2.2.2.2.1.1, .int .i64 m.2.2.2.2.1.2.1, .int .i64 m.2.2.2.2.1.2.2.1, .int .i64 m.2.2.2.2.1.2.2.2.1, .int .i64 m.2.2.2.2.1.2.2.2.2, .slice A n c, .slice B p d], .agg #[.int .i64 x.1, .int .i64 x.2.1, .int .i64 x.2.2.1, .int .i64 x.2.2.2.1, .int .i64 x.2.2.2.2.1.1, .int .i64 x.2.2.2.2.1.2.1, .int .i64 x.2.2.2.2.1.2.2.1, .int .i64 x.2.2.2.2.1.2.2.2.1, .int .i64 x.2.2.2.2.1.2.2.2.2, .slice A' n' c', .slice B' p' d']]) ∧ Read2 w' w.heap.size w'.heap.size m A n c B p d ∧ Read2 w' w.heap.size w'.heap.size x A' n' c' B' p' d' ∧ Below w.heap.size w w'
theorem sameFin {w w9 : World} {m x : MsgT} {A : Option Addr} {n c : Nat} {B : Option Addr} {p d : Nat} {A' : Option Addr} {n' c' : Nat} {B' : Option Addr} {p' d' : Nat} (hB : Below w.heap.size w w9)
    {h1i h2i : Nat} (h1 : Read2 w9 (w.heap.size + 2) h1i m A n c B p d) (h1z : h1i ≤ w9.heap.size) (h2 : Read2 w9 (w.heap.size + 2) h2i x A' n' c' B' p' d') (h2z : h2i ≤ w9.heap.size) :
    SamePost w (.returned (.tuple #[.agg #[.int .i64 m.1, .int .i64 m.2.1, .int .i64 m.2.2.1, .int .i64 m.2.2.2.1, .int .i64 m.2.2.2.2.1.1, .int .i64 m.2.2.2.2.1.2.1, .int .i64 m.2.2.2.2.1.2.2.1, .int .i64 m.2.2.2.2.1.2.2.2.1, .int .i64 m.2.2.2.2.1.2.2.2.2, .slice A n c, .slice B p d], .agg #[.int .i64 x.1, .int .i64 x.2.1, .int .i64 x.2.2.1, .int .i64 x.2.2.2.1, .int .i64 x.2.2.2.2.1.1, .int .i64 x.2.2.2.2.1.2.1, .int .i64 x.2.2.2.2.1.2.2.1, .int .i64 x.2.2.2.2.1.2.2.2.1, .int .i64 x.2.2.2.2.1.2.2.2.2, .slice A' n' c', .slice B' p' d']])) (putCells (putCells w9 w.heap.size 0 [.int .i64 m.1, .int .i64 m.2.1, .int .i64 m.2.2.1, .int .i64 m.2.2.2.1, .int .i64 m.2.2.2.2.1.1, .int .i64 m.2.2.2.2.1.2.1, .int .i64 m.2.2.2.2.1.2.2.1, .int .i64 m.2.2.2.2.1.2.2.2.1, .int .i64 m.2.2.2.2.1.2.2.2.2, .slice A n c, .slice B p d]) (w.heap.size + 1) 0 [.int .i64 x.1, .int .i64 x.2.1, .int .i64 x.2.2.1, .int .i64 x.2.2.2.1, .int .i64 x.2.2.2.2.1.1, .int .i64 x.2.2.2.2.1.2.1, .int .i64 x.2.2.2.2.1.2.2.1, .int .i64 x.2.2.2.2.1.2.2.2.1, .int .i64 x.2.2.2.2.1.2.2.2.2, .slice A' n' c', .slice B' p' d']) := by
  have hk : ∀ b, w.heap.size + 2 ≤ b → (putCells (putCells w9 w.heap.size 0 [.int .i64 m.1, .int .i64 m.2.1, .int .i64 m.2.2.1, .int .i64 m.2.2.2.1, .int .i64 m.2.2.2.2.1.1, .int .i64 m.2.2.2.2.1.2.1, .int .i64 m.2.2.2.2.1.2.2.1, .int .i64 m.2.2.2.2.1.2.2.2.1, .int .i64 m.2.2.2.2.1.2.2.2.2, .slice A n c, .slice B p d]) (w.heap.size + 1) 0 [.int .i64 x.1, .int .i64 x.2.1, .int .i64 x.2.2.1, .int .i64 x.2.2.2.1, .int .i64 x.2.2.2.2.1.1, .int .i64 x.2.2.2.2.1.2.1, .int .i64 x.2.2.2.2.1.2.2.1, .int .i64 x.2.2.2.2.1.2.2.2.1, .int .i64 x.2.2.2.2.1.2.2.2.2, .slice A' n' c', .slice B' p' d']).heap[b]? = w9.heap[b]? := fun b hb =>
    (heap_putCells_other [.int .i64 x.1, .int .i64 x.2.1, .int .i64 x.2.2.1, .int .i64 x.2.2.2.1, .int .i64 x.2.2.2.2.1.1, .int .i64 x.2.2.2.2.1.2.1, .int .i64 x.2.2.2.2.1.2.2.1, .int .i64 x.2.2.2.2.1.2.2.2.1, .int .i64 x.2.2.2.2.1.2.2.2.2, .slice A' n' c', .slice B' p' d'] _ (w.heap.size + 1) 0 b (by omega)).trans (heap_putCells_other [.int .i64 m.1, .int .i64 m.2.1, .int .i64 m.2.2.1, .int .i64 m.2.2.2.1, .int .i64 m.2.2.2.2.1.1, .int .i64 m.2.2.2.2.1.2.1, .int .i64 m.2.2.2.2.1.2.2.1, .int .i64 m.2.2.2.2.1.2.2.2.1, .int .i64 m.2.2.2.2.1.2.2.2.2, .slice A n c, .slice B p d] _ w.heap.size 0 b (by omega))
  have hz : (putCells (putCells w9 w.heap.size 0 [.int .i64 m.1, .int .i64 m.2.1, .int .i64 m.2.2.1, .int .i64 m.2.2.2.1, .int .i64 m.2.2.2.2.1.1, .int .i64 m.2.2.2.2.1.2.1, .int .i64 m.2.2.2.2.1.2.2.1, .int .i64 m.2.2.2.2.1.2.2.2.1, .int .i64 m.2.2.2.2.1.2.2.2.2, .slice A n c, .slice B p d]) (w.heap.size + 1) 0 [.int .i64 x.1, .int .i64 x.2.1, .int .i64 x.2.2.1, .int .i64 x.2.2.2.1, .int .i64 x.2.2.2.2.1.1, .int .i64 x.2.2.2.2.1.2.1, .int .i64 x.2.2.2.2.1.2.2.1, .int .i64 x.2.2.2.2.1.2.2.2.1, .int .i64 x.2.2.2.2.1.2.2.2.2, .slice A' n' c', .slice B' p' d']).heap.size = w9.heap.size := (size_putCells [.int .i64 x.1, .int .i64 x.2.1, .int .i64 x.2.2.1, .int .i64 x.2.2.2.1, .int .i64 x.2.2.2.2.1.1, .int .i64 x.2.2.2.2.1.2.1, .int .i64 x.2.2.2.2.1.2.2.1, .int .i64 x.2.2.2.2.1.2.2.2.1, .int .i64 x.2.2.2.2.1.2.2.2.2, .slice A' n' c', .slice B' p' d'] _ (w.heap.size + 1) 0).trans (size_putCells [.int .i64 m.1, .int .i64 m.2.1, .int .i64 m.2.2.1, .int .i64 m.2.2.2.1, .int .i64 m.2.2.2.2.1.1, .int .i64 m.2.2.2.2.1.2.1, .int .i64 m.2.2.2.2.1.2.2.1, .int .i64 m.2.2.2.2.1.2.2.2.1, .int .i64 m.2.2.2.2.1.2.2.2.2, .slice A n c, .slice B p d] _ w.heap.size 0)
  have hb : Below w.heap.size w (putCells (putCells w9 w.heap.size 0 [.int .i64 m.1, .int .i64 m.2.1, .int .i64 m.2.2.1, .int .i64 m.2.2.2.1, .int .i64 m.2.2.2.2.1.1, .int .i64 m.2.2.2.2.1.2.1, .int .i64 m.2.2.2.2.1.2.2.1, .int .i64 m.2.2.2.2.1.2.2.2.1, .int .i64 m.2.2.2.2.1.2.2.2.2, .slice A n c, .slice B p d]) (w.heap.size + 1) 0 [.int .i64 x.1, .int .i64 x.2.1, .int .i64 x.2.2.1, .int .i64 x.2.2.2.1, .int .i64 x.2.2.2.2.1.1, .int .i64 x.2.2.2.2.1.2.1, .int .i64 x.2.2.2.2.1.2.2.1, .int .i64 x.2.2.2.2.1.2.2.2.1, .int .i64 x.2.2.2.2.1.2.2.2.2, .slice A' n' c', .slice B' p' d']) := below_putCells [.int .i64 x.1, .int .i64 x.2.1, .int .i64 x.2.2.1, .int .i64 x.2.2.2.1, .int .i64 x.2.2.2.2.1.1, .int .i64 x.2.2.2.2.1.2.1, .int .i64 x.2.2.2.2.1.2.2.1, .int .i64 x.2.2.2.2.1.2.2.2.1, .int .i64 x.2.2.2.2.1.2.2.2.2, .slice A' n' c', .slice B' p' d'] (below_putCells [.int .i64 m.1, .int .i64 m.2.1, .int .i64 m.2.2.1, .int .i64 m.2.2.2.1, .int .i64 m.2.2.2.2.1.1, .int .i64 m.2.2.2.2.1.2.1, .int .i64 m.2.2.2.2.1.2.2.1, .int .i64 m.2.2.2.2.1.2.2.2.1, .int .i64 m.2.2.2.2.1.2.2.2.2, .slice A n c, .slice B p d] hB (Nat.le_refl _)) (by omega)
  generalize putCells (putCells w9 w.heap.size 0 [.int .i64 m.1, .int .i64 m.2.1, .int .i64 m.2.2.1, .int .i64 m.2.2.2.1, .int .i64 m.2.2.2.2.1.1, .int .i64 m.2.2.2.2.1.2.1, .int .i64 m.2.2.2.2.1.2.2.1, .int .i64 m.2.2.2.2.1.2.2.2.1, .int .i64 m.2.2.2.2.1.2.2.2.2, .slice A n c, .slice B p d]) (w.heap.size + 1) 0 [.int .i64 x.1, .int .i64 x.2.1, .int .i64 x.2.2.1, .int .i64 x.2.2.2.1, .int .i64 x.2.2.2.2.1.1, .int .i64 x.2.2.2.2.1.2.1, .int .i64 x.2.2.2.2.1.2.2.1, .int .i64 x.2.2.2.2.1.2.2.2.1, .int .i64 x.2.2.2.2.1.2.2.2.2, .slice A' n' c', .slice B' p' d'] = wf at *
  exact ⟨m, x, A, n, c, B, p, d, A', n', c', B', p', d', rfl, h1.keep (by omega) (by omega) (fun b h _ => hk b h), h2.keep (by omega) (by omega) (fun b h _ => hk b h), hb⟩
theorem SamePost.drew {w w' : World} {e : Ending} (h : SamePost w e w') : SamePost w e w'.drew := by
  obtain ⟨m, x, A, n, c, B, p, d, A', n', c', B', p', d', he, h1, h2, h3⟩ := h
  exact ⟨m, x, A, n, c, B, p, d, A', n', c', B', p', d', he, h1.keep (Nat.le_refl _) (Nat.le_refl _) (fun _ _ _ => rfl), h2.keep (Nat.le_refl _) (Nat.le_refl _) (fun _ _ _ => rfl), h3.drew⟩
set_option maxRecDepth 100000 in
set_option maxHeartbeats 16000000 in
theorem DrawMsgSame_c (A0 : Option Addr) (n0 c0 : Nat) (bs : List Int) (w : World) (hn : n0 = bs.length) (hc : n0 ≤ c0) (hcm : c0 ≤ maxLen) (hs : Sl encU 1 w 0 w.heap.size A0 bs) (hb : ∀ b ∈ bs, 0 ≤ b ∧ b < 256) :
    Calls Try.prog 4 #[.slice A0 n0 c0] w fun e w' => SamePost w e w' := by
  have hn' := hide hn
  have hb' := hide hb
  clear hn hb
  have hB0 : Below w.heap.size w ((w.alloc (.cells #[.int .i64 0, .int .i64 0, .int .i64 0, .int .i64 0, .int .i64 0, .int .i64 0, .int .i64 0, .int .i64 0, .int .i64 0, .slice none 0 0, .slice none 0 0] 28)).alloc (.cells #[.int .i64 0, .int .i64 0, .int .i64 0, .int .i64 0, .int .i64 0, .int .i64 0, .int .i64 0, .int .i64 0, .int .i64 0, .slice none 0 0, .slice none 0 0] 28)) := ((Below.refl _ _).alloc (Nat.le_refl _) _).alloc (by simp) _
  have hP0 : LBox ((w.alloc (.cells #[.int .i64 0, .int .i64 0, .int .i64 0, .int .i64 0, .int .i64 0, .int .i64 0, .int .i64 0, .int .i64 0, .int .i64 0, .slice none 0 0, .slice none 0 0] 28)).alloc (.cells #[.int .i64 0, .int .i64 0, .int .i64 0, .int .i64 0, .int .i64 0, .int .i64 0, .int .i64 0, .int .i64 0, .int .i64 0, .slice none 0 0, .slice none 0 0] 28)) w.heap.size (0, 0, 0, 0, (0, 0, 0, 0, 0), [], []) (.slice none 0 0) (.slice none 0 0) := (((Below.refl (w.alloc (.cells #[.int .i64 0, .int .i64 0, .int .i64 0, .int .i64 0, .int .i64 0, .int .i64 0, .int .i64 0, .int .i64 0, .int .i64 0, .slice none 0 0, .slice none 0 0] 28)).heap.size (w.alloc (.cells #[.int .i64 0, .int .i64 0, .int .i64 0, .int .i64 0, .int .i64 0, .int .i64 0, .int .i64 0, .int .i64 0, .int .i64 0, .slice none 0 0, .slice none 0 0] 28))).alloc (Nat.le_refl _) (.cells #[.int .i64 0, .int .i64 0, .int .i64 0, .int .i64 0, .int .i64 0, .int .i64 0, .int .i64 0, .int .i64 0, .int .i64 0, .slice none 0 0, .slice none 0 0] 28)).block _ (by simp)).trans (heap_alloc_new w (.cells #[.int .i64 0, .int .i64 0, .int .i64 0, .int .i64 0, .int .i64 0, .int .i64 0, .int .i64 0, .int .i64 0, .int .i64 0, .slice none 0 0, .slice none 0 0] 28))
  have hQ0 : LBox ((w.alloc (.cells #[.int .i64 0, .int .i64 0, .int .i64 0, .int .i64 0, .int .i64 0, .int .i64 0, .int .i64 0, .int .i64 0, .int .i64 0, .slice none 0 0, .slice none 0 0] 28)).alloc (.cells #[.int .i64 0, .int .i64 0, .int .i64 0, .int .i64 0, .int .i64 0, .int .i64 0, .int .i64 0, .int .i64 0, .int .i64 0, .slice none 0 0, .slice none 0 0] 28)) (w.heap.size + 1) (0, 0, 0, 0, (0, 0, 0, 0, 0), [], []) (.slice none 0 0) (.slice none 0 0) := by
    have := heap_alloc_new (w.alloc (.cells #[.int .i64 0, .int .i64 0, .int .i64 0, .int .i64 0, .int .i64 0, .int .i64 0, .int .i64 0, .int .i64 0, .int .i64 0, .slice none 0 0, .slice none 0 0] 28)) (.cells #[.int .i64 0, .int .i64 0, .int .i64 0, .int .i64 0, .int .i64 0, .int .i64 0, .int .i64 0, .int .i64 0, .int .i64 0, .slice none 0 0, .slice none 0 0] 28)
    simpa [LBox] using this
  have hz0 : Hid (((w.alloc (.cells #[.int .i64 0, .int .i64 0, .int .i64 0, .int .i64 0, .int .i64 0, .int .i64 0, .int .i64 0, .int .i64 0, .int .i64 0, .slice none 0 0, .slice none 0 0] 28)).alloc (.cells #[.int .i64 0, .int .i64 0, .int .i64 0, .int .i64 0, .int .i64 0, .int .i64 0, .int .i64 0, .int .i64 0, .int .i64 0, .slice none 0 0, .slice none 0 0] 28)).heap.size = w.heap.size + 2) := hide (by simp)
  have hs0 := hs.below hB0 (Nat.le_refl _)
  go_enter Try.func4, Try.ntmps4
  go_wp2_with fail
  generalize (w.alloc (.cells #[.int .i64 0, .int .i64 0, .int .i64 0, .int .i64 0, .int .i64 0, .int .i64 0, .int .i64 0, .int .i64 0, .int .i64 0, .slice none 0 0, .slice none 0 0] 28)).alloc (.cells #[.int .i64 0, .int .i64 0, .int .i64 0, .int .i64 0, .int .i64 0, .int .i64 0, .int .i64 0, .int .i64 0, .int .i64 0, .slice none 0 0, .slice none 0 0] 28) = w0 at *
  refine (l20Open_c A0 n0 c0 bs w0 hn'.out hc hcm (hs0.mono (Nat.le_refl _) hB0.size) hb'.out).mono ?_
  rintro e w1 ⟨rfl, hr1, hb1⟩
  have hB1 := hB0.trans (hb1.mono hB0.size)
  have hP1 := hP0.below hb1 hP0.lt
  have hQ1 := hQ0.below hb1 hQ0.lt
  have hz1 := hz0.out
  have hl1 : w0.heap.size < w1.heap.size := hr1.lt
  have hg0 : w.heap.size + 2 ≤ w0.heap.size := by omega
  clear hb1 hs0 hs hP0 hQ0 hn' hb'
  have hgP : some w0.heap.size ≠ some w.heap.size := by intro h; injection h with h; omega
  have hgQ : some w0.heap.size ≠ some (w.heap.size + 1) := by intro h; injection h with h; omega
  generalize hgd : w0.heap.size = g at *
  have hgd' := hide hgd
  clear hgd hz1
  go_wp2_with fail
  refine (l20AnyMsg_c g 0 w1 hr1 (by omega)).mono ?_
  rintro e w2 ⟨m, A, n, c, B, p, d, rfl, hm2, hr2, h2⟩
  have hP2 := hP1.only h2 hgP
  have hQ2 := hQ1.only h2 hgQ
  have hB2 := hB1.trans (h2.toBelow hB1.size (fun k hk => by injection hk with hk; omega))
  have hA := (Below.refl w2.heap.size w2).alloc (Nat.le_refl _) (.cells #[.int .i64 m.1, .int .i64 m.2.1, .int .i64 m.2.2.1, .int .i64 m.2.2.2.1, .int .i64 m.2.2.2.2.1.1, .int .i64 m.2.2.2.2.1.2.1, .int .i64 m.2.2.2.2.1.2.2.1, .int .i64 m.2.2.2.2.1.2.2.2.1, .int .i64 m.2.2.2.2.1.2.2.2.2, .slice A n c, .slice B p d] 28)
  have hx3 : LBox (w2.alloc (.cells #[.int .i64 m.1, .int .i64 m.2.1, .int .i64 m.2.2.1, .int .i64 m.2.2.2.1, .int .i64 m.2.2.2.2.1.1, .int .i64 m.2.2.2.2.1.2.1, .int .i64 m.2.2.2.2.1.2.2.1, .int .i64 m.2.2.2.2.1.2.2.2.1, .int .i64 m.2.2.2.2.1.2.2.2.2, .slice A n c, .slice B p d] 28)) w2.heap.size m (.slice A n c) (.slice B p d) := heap_alloc_new w2 (.cells #[.int .i64 m.1, .int .i64 m.2.1, .int .i64 m.2.2.1, .int .i64 m.2.2.2.1, .int .i64 m.2.2.2.2.1.1, .int .i64 m.2.2.2.2.1.2.1, .int .i64 m.2.2.2.2.1.2.2.1, .int .i64 m.2.2.2.2.1.2.2.2.1, .int .i64 m.2.2.2.2.1.2.2.2.2, .slice A n c, .slice B p d] 28)
  have hP3 := hP2.below hA hP2.lt
  have hQ3 := hQ2.below hA hQ2.lt
  have hr3 := hr2.keep hA
  have hB3 := hB2.trans (hA.mono hB2.size)
  have hm3 : Read2 (w2.alloc (.cells #[.int .i64 m.1, .int .i64 m.2.1, .int .i64 m.2.2.1, .int .i64 m.2.2.2.1, .int .i64 m.2.2.2.2.1.1, .int .i64 m.2.2.2.2.1.2.1, .int .i64 m.2.2.2.2.1.2.2.1, .int .i64 m.2.2.2.2.1.2.2.2.1, .int .i64 m.2.2.2.2.1.2.2.2.2, .slice A n c, .slice B p d] 28)) w1.heap.size w2.heap.size m A n c B p d := hm2.two.keep (Nat.le_refl _) (Nat.le_refl _) (fun b _ h => hA.block b h)
  have hcl2 := hm2.cl.cap
  have hclm := hm2.cl.max
  have hvo2 := hm2.vo.cap
  have hvom := hm2.vo.max
  have hvw := hide hm2.view
  have hn10 := hm2.n10
  have hp10 := hm2.p10
  unfold maxLen at hclm hvom
  have hgx : some g ≠ some w2.heap.size := by intro h; injection h with h; have := hr2.lt; omega
  have hgw2 : g < w2.heap.size := hr2.lt
  have hz12 := h2.size
  clear hP1 hQ1 hP2 hQ2 hr1 hr2 hm2 hB1 hB2 h2 hA
  obtain ⟨x0, x1, x2, x3, x4, x5, x6, x7, x8, x9, x10, xf0, xf1, xf2, xf3, xf4, xf5, xf6, xf7, xf8, xf9, xf10⟩ := hx3.cells
  have hlx := hx3.lt
  go_wp2_with fail
  generalize w2.alloc (.cells #[.int .i64 m.1, .int .i64 m.2.1, .int .i64 m.2.2.1, .int .i64 m.2.2.2.1, .int .i64 m.2.2.2.2.1.1, .int .i64 m.2.2.2.2.1.2.1, .int .i64 m.2.2.2.2.1.2.2.1, .int .i64 m.2.2.2.2.1.2.2.2.1, .int .i64 m.2.2.2.2.1.2.2.2.2, .slice A n c, .slice B p d] 28) = w3 at *
  refine (pick_c g _ 2 w3 hr3 (by omega) (by omega)).mono ?_
  rintro e w4 ⟨k4, rfl, hk4, hr4, h4⟩
  have hx4 := hx3.only h4 hgx
  have hP4 := hP3.only h4 hgP
  have hQ4 := hQ3.only h4 hgQ
  have hB4 := hB3.trans (h4.toBelow hB3.size (fun k hk => by injection hk with hk; omega))
  have hz3 : w2.heap.size < w3.heap.size := hlx
  have hm4 : Read2 w4 w1.heap.size w2.heap.size m A n c B p d := hm3.keep (Nat.le_refl _) (Nat.le_refl _) (fun b hb1 hb2 => h4.block b (by omega) (fun e => by injection e; omega))
  have hz34 := h4.size
  clear hk4 h4 hx3 hP3 hQ3 hr3 hB3 hm3
  obtain ⟨x0, x1, x2, x3, x4, x5, x6, x7, x8, x9, x10, xf0, xf1, xf2, xf3, xf4, xf5, xf6, xf7, xf8, xf9, xf10⟩ := hx4.cells
  by_cases hk : k4 = 0
  · subst hk
    have d1 : (((0 : Nat) : Int) == 0) = true := by decide
    have hsm4 := hm4.small
    go_wp2_with fail
    refine (l3Copy_c m A B n c p d w1.heap.size w2.heap.size w4 hm4.cl hm4.vo (by omega) (by omega) (by omega) (fun v hv => Nat.le_trans (hsm4 v hv) (by omega))).mono ?_
    rintro e w5 ⟨va, vb, lq, rfl, hwa, hgb, hq4, hvq, hb5⟩
    obtain ⟨Aa, ca, rfl, _, hca, _⟩ := hwa.form
    obtain ⟨Bb, cb, rfl, _, hcb, _⟩ := hgb.form
    unfold maxLen at hca hcb
    have hLa : m.2.2.2.2.2.1.length ≤ 10 := by have := hm4.cl.len; omega
    have hLb : m.2.2.2.2.2.2.length ≤ 10 := by have := hm4.vo.len; omega
    have hx5 := hx4.below hb5 hx4.lt
    have hP5 := hP4.below hb5 hP4.lt
    have hQ5 := hQ4.below hb5 hQ4.lt
    have hr5 := hr4.keep hb5
    have hB5 := hB4.trans (hb5.mono hB4.size)
    have hm5 : Read2 w5 w1.heap.size w2.heap.size m A n c B p d := hm4.keep (Nat.le_refl _) (Nat.le_refl _) (fun b _ h => hb5.block b (by omega))
    have hxx5 : Read2 w5 w4.heap.size w5.heap.size m Aa m.2.2.2.2.2.1.length ca Bb m.2.2.2.2.2.2.length cb := ⟨hwa.rdn encClaim_len, (hgb.rdn vote_kept).mono vote_kept hq4 (Nat.le_refl _), by omega, by omega, hsm4⟩
    have hwl := hide hwa.lt
    have hA6 := (Below.refl w5.heap.size w5).alloc (Nat.le_refl _) (.cells #[.int .i64 m.1, .int .i64 m.2.1, .int .i64 m.2.2.1, .int .i64 m.2.2.2.1, .int .i64 m.2.2.2.2.1.1, .int .i64 m.2.2.2.2.1.2.1, .int .i64 m.2.2.2.2.1.2.2.1, .int .i64 m.2.2.2.2.1.2.2.2.1, .int .i64 m.2.2.2.2.1.2.2.2.2, .slice Aa m.2.2.2.2.2.1.length ca, .slice Bb m.2.2.2.2.2.2.length cb] 28)
    have hy6 : LBox (w5.alloc (.cells #[.int .i64 m.1, .int .i64 m.2.1, .int .i64 m.2.2.1, .int .i64 m.2.2.2.1, .int .i64 m.2.2.2.2.1.1, .int .i64 m.2.2.2.2.1.2.1, .int .i64 m.2.2.2.2.1.2.2.1, .int .i64 m.2.2.2.2.1.2.2.2.1, .int .i64 m.2.2.2.2.1.2.2.2.2, .slice Aa m.2.2.2.2.2.1.length ca, .slice Bb m.2.2.2.2.2.2.length cb] 28)) w5.heap.size m (.slice Aa m.2.2.2.2.2.1.length ca) (.slice Bb m.2.2.2.2.2.2.length cb) := heap_alloc_new w5 (.cells #[.int .i64 m.1, .int .i64 m.2.1, .int .i64 m.2.2.1, .int .i64 m.2.2.2.1, .int .i64 m.2.2.2.2.1.1, .int .i64 m.2.2.2.2.1.2.1, .int .i64 m.2.2.2.2.1.2.2.1, .int .i64 m.2.2.2.2.1.2.2.2.1, .int .i64 m.2.2.2.2.1.2.2.2.2, .slice Aa m.2.2.2.2.2.1.length ca, .slice Bb m.2.2.2.2.2.2.length cb] 28)
    have hx6 := hx5.below hA6 hx5.lt
    have hP6 := hP5.below hA6 hP5.lt
    have hQ6 := hQ5.below hA6 hQ5.lt
    have hr6 := hr5.keep hA6
    have hB6 := hB5.trans (hA6.mono hB5.size)
    have hz25 : w2.heap.size < w5.heap.size := by have := hb5.size; omega
    have hm6 : Read2 (w5.alloc (.cells #[.int .i64 m.1, .int .i64 m.2.1, .int .i64 m.2.2.1, .int .i64 m.2.2.2.1, .int .i64 m.2.2.2.2.1.1, .int .i64 m.2.2.2.2.1.2.1, .int .i64 m.2.2.2.2.1.2.2.1, .int .i64 m.2.2.2.2.1.2.2.2.1, .int .i64 m.2.2.2.2.1.2.2.2.2, .slice Aa m.2.2.2.2.2.1.length ca, .slice Bb m.2.2.2.2.2.2.length cb] 28)) w1.heap.size w2.heap.size m A n c B p d := hm5.keep (Nat.le_refl _) (Nat.le_refl _) (fun b _ h => hA6.block b (by omega))
    have hxx6 : Read2 (w5.alloc (.cells #[.int .i64 m.1, .int .i64 m.2.1, .int .i64 m.2.2.1, .int .i64 m.2.2.2.1, .int .i64 m.2.2.2.2.1.1, .int .i64 m.2.2.2.2.1.2.1, .int .i64 m.2.2.2.2.1.2.2.1, .int .i64 m.2.2.2.2.1.2.2.2.1, .int .i64 m.2.2.2.2.1.2.2.2.2, .slice Aa m.2.2.2.2.2.1.length ca, .slice Bb m.2.2.2.2.2.2.length cb] 28)) w4.heap.size w5.heap.size m Aa m.2.2.2.2.2.1.length ca Bb m.2.2.2.2.2.2.length cb := hxx5.keep (Nat.le_refl _) (Nat.le_refl _) (fun b _ h => hA6.block b h)
    have hwa6 := hwa.below hA6 (Nat.le_refl _)
    have hgb6 := hgb.below vote_kept hA6 (Nat.le_refl _)
    have hgy : some g ≠ some w5.heap.size := by intro h; injection h with h; have := hr5.lt; omega
    have hz45 := hb5.size
    have hz12' : w1.heap.size ≤ w4.heap.size := by omega
    have hvo5 : RdN 2 voteR w5 lq w5.heap.size Bb m.2.2.2.2.2.2.length cb m.2.2.2.2.2.2 := hgb.rdn vote_kept
    have hA6' := hide (fun b (h : b < w5.heap.size) => hA6.block b h)
    clear hx4 hx5 hP4 hP5 hQ4 hQ5 hr4 hr5 hB4 hB5 hm4 hm5 hwa hgb hb5 hA6
    obtain ⟨x0, x1, x2, x3, x4, x5, x6, x7, x8, x9, x10, xf0, xf1, xf2, xf3, xf4, xf5, xf6, xf7, xf8, xf9, xf10⟩ := hx6.cells
    obtain ⟨y0, y1, y2, y3, y4, y5, y6, y7, y8, y9, y10, yf0, yf1, yf2, yf3, yf4, yf5, yf6, yf7, yf8, yf9, yf10⟩ := hy6.cells
    have hly := hy6.lt
    go_wp2_with fail
    generalize w5.alloc (.cells #[.int .i64 m.1, .int .i64 m.2.1, .int .i64 m.2.2.1, .int .i64 m.2.2.2.1, .int .i64 m.2.2.2.2.1.1, .int .i64 m.2.2.2.2.1.2.1, .int .i64 m.2.2.2.2.1.2.2.1, .int .i64 m.2.2.2.2.1.2.2.2.1, .int .i64 m.2.2.2.2.1.2.2.2.2, .slice Aa m.2.2.2.2.2.1.length ca, .slice Bb m.2.2.2.2.2.2.length cb] 28) = w6 at *
    refine (pick_c g _ 4 w6 hr6 (by omega) (by omega)).mono ?_
    rintro e w7 ⟨k7, rfl, hk7, hr7, h7⟩
    have hx7 := hx6.only h7 hgx
    have hy7 := hy6.only h7 hgy
    have hP7 := hP6.only h7 hgP
    have hQ7 := hQ6.only h7 hgQ
    have hB7 := hB6.trans (h7.toBelow hB6.size (fun k hk => by injection hk with hk; omega))
    have hm7 : Read2 w7 w1.heap.size w2.heap.size m A n c B p d := hm6.keep (Nat.le_refl _) (Nat.le_refl _) (fun b hb1 hb2 => h7.block b (by omega) (fun e => by injection e; omega))
    have hxx7 : Read2 w7 w4.heap.size w5.heap.size m Aa m.2.2.2.2.2.1.length ca Bb m.2.2.2.2.2.2.length cb := hxx6.keep (Nat.le_refl _) (Nat.le_refl _) (fun b hb1 hb2 => h7.block b (by omega) (fun e => by injection e; omega))
    have hwa7 := hwa6.only h7 (Nat.le_refl _) (fun b hb e => by injection e; have := (hwa6.lt b hb).1; omega)
    have hgb7 : Grow 2 45 voteR w7 lq (.slice Bb m.2.2.2.2.2.2.length cb) m.2.2.2.2.2.2 := hgb6.keep vote_kept h7.size (fun b h1 h2 => h7.block b h2 (fun e => by injection e; omega))
    have hz67 := h7.size
    have hk7' : k7 ≤ 3 := by have := hk7.1 (by omega); omega
    have hvo7 : RdN 2 voteR w7 lq w5.heap.size Bb m.2.2.2.2.2.2.length cb m.2.2.2.2.2.2 := hvo5.keep vote_kept (fun b h1 h2 => (h7.block b (by omega) (fun e => by injection e; omega)).trans (hA6'.out b h2))
    clear hx6 hy6 hP6 hQ6 hr6 hB6 hm6 hwa6 hgb6 hk7 h7 hxx5 hxx6 hvo5
    obtain ⟨x0, x1, x2, x3, x4, x5, x6, x7, x8, x9, x10, xf0, xf1, xf2, xf3, xf4, xf5, xf6, xf7, xf8, xf9, xf10⟩ := hx7.cells
    obtain ⟨y0, y1, y2, y3, y4, y5, y6, y7, y8, y9, y10, yf0, yf1, yf2, yf3, yf4, yf5, yf6, yf7, yf8, yf9, yf10⟩ := hy7.cells
    obtain ⟨p0, p1, p2, p3, p4, p5, p6, p7, p8, p9, p10, pf0, pf1, pf2, pf3, pf4, pf5, pf6, pf7, pf8, pf9, pf10⟩ := hP7.cells
    obtain ⟨q0, q1, q2, q3, q4, q5, q6, q7, q8, q9, q10, qf0, qf1, qf2, qf3, qf4, qf5, qf6, qf7, qf8, qf9, qf10⟩ := hQ7.cells
    have hwN : ∀ (j : Nat) (u : Value), (w7.setCell ⟨w5.heap.size, j, none⟩ u).heap.size = w7.heap.size := fun j u => by simp [World.setCell]
    have hwN' := hide hwN
    clear hwN
    have hz57 : w5.heap.size < w7.heap.size := by omega
    have hv1 := hvw.out.1
    have hv2 := hvw.out.2
    have hm7' := hide hm7
    have hxx7' := hide hxx7
    have hB7' := hide hB7
    have hvo7' := hide hvo7
    clear hm7 hxx7 hB7 hvo7
    rcases (show k7 = 0 ∨ k7 = 1 ∨ 2 ≤ k7 by omega) with h0 | h0 | h0
    · have e0 : ((k7 : Int) == 0) = true := by rw [h0]; decide
      have hF : Hid (SamePost w (.returned (.tuple #[.agg #[.int .i64 m.1, .int .i64 m.2.1, .int .i64 m.2.2.1, .int .i64 m.2.2.2.1, .int .i64 m.2.2.2.2.1.1, .int .i64 m.2.2.2.2.1.2.1, .int .i64 m.2.2.2.2.1.2.2.1, .int .i64 m.2.2.2.2.1.2.2.2.1, .int .i64 m.2.2.2.2.1.2.2.2.2, .slice A n c, .slice B p d], .agg #[.int .i64 m.1, .int .i64 m.2.1, .int .i64 (m.2.2.1 + 1), .int .i64 m.2.2.2.1, .int .i64 m.2.2.2.2.1.1, .int .i64 m.2.2.2.2.1.2.1, .int .i64 m.2.2.2.2.1.2.2.1, .int .i64 m.2.2.2.2.1.2.2.2.1, .int .i64 m.2.2.2.2.1.2.2.2.2, .slice Aa m.2.2.2.2.2.1.length ca, .slice Bb m.2.2.2.2.2.2.length cb]])) (putCells (putCells (w7.setCell ⟨w5.heap.size, 2, none⟩ (.int .i64 (m.2.2.1 + 1))) w.heap.size 0 [.int .i64 m.1, .int .i64 m.2.1, .int .i64 m.2.2.1, .int .i64 m.2.2.2.1, .int .i64 m.2.2.2.2.1.1, .int .i64 m.2.2.2.2.1.2.1, .int .i64 m.2.2.2.2.1.2.2.1, .int .i64 m.2.2.2.2.1.2.2.2.1, .int .i64 m.2.2.2.2.1.2.2.2.2, .slice A n c, .slice B p d]) (w.heap.size + 1) 0 [.int .i64 m.1, .int .i64 m.2.1, .int .i64 (m.2.2.1 + 1), .int .i64 m.2.2.2.1, .int .i64 m.2.2.2.2.1.1, .int .i64 m.2.2.2.2.1.2.1, .int .i64 m.2.2.2.2.1.2.2.1, .int .i64 m.2.2.2.2.1.2.2.2.1, .int .i64 m.2.2.2.2.1.2.2.2.2, .slice Aa m.2.2.2.2.2.1.length ca, .slice Bb m.2.2.2.2.2.2.length cb]).drew) := hide (SamePost.drew <| sameFin (w := w) (w9 := w7.setCell ⟨w5.heap.size, 2, none⟩ (.int .i64 (m.2.2.1 + 1))) (x := (m.1, m.2.1, m.2.2.1 + 1, m.2.2.2.1, m.2.2.2.2.1, m.2.2.2.2.2.1, m.2.2.2.2.2.2)) (hB7'.out.setCell (p := ⟨w5.heap.size, 2, none⟩) (by show w.heap.size ≤ w5.heap.size; omega) _)
        (hm7'.out.keep (by omega) (Nat.le_refl _) (fun b _ h => Below.heap_setCell w7 ⟨w5.heap.size, 2, none⟩ _ b (by show b ≠ w5.heap.size; omega))) (by rw [hwN'.out]; omega)
        (⟨(hxx7'.out.keep (Nat.le_refl _) (Nat.le_refl _) (fun b _ h => Below.heap_setCell w7 ⟨w5.heap.size, 2, none⟩ _ b (by show b ≠ w5.heap.size; omega))).cl.mono (flat_kept _) (by omega) (Nat.le_refl _), (hxx7'.out.keep (Nat.le_refl _) (Nat.le_refl _) (fun b _ h => Below.heap_setCell w7 ⟨w5.heap.size, 2, none⟩ _ b (by show b ≠ w5.heap.size; omega))).vo.mono vote_kept (by omega) (Nat.le_refl _), hxx7'.out.n11, hxx7'.out.p10, hxx7'.out.small⟩) (by rw [hwN'.out]; omega))
      clear h0
      go_wp2
      refine wp_region_O (fun _ => True) [] [33, 34] [] (Ord.seg [] (Ord.both 0 1 (Ord.seg [] (Ord.both 1 2 (Ord.seg [2, 3] Ord.done) (Ord.seg [1, 3] Ord.done))) (Ord.seg [0, 2, 3] Ord.done))) (by kernel_rfl) (by kernel_rfl) (by kernel_rfl) trivial ?_
      go_wp2_with (first
        | ((with_reducible refine wpO_seg ?_); simp only [pickL, List.toList_toArray, List.getElem?_cons_succ, List.getElem?_cons_zero]) | ((with_reducible refine wpO_both ?_ ?_) <;> simp only [pickL, List.toList_toArray, List.getElem?_cons_succ, List.getElem?_cons_zero]) | ((with_reducible refine wpO_done ?_); try dsimp only) | ((with_reducible refine wpT_q0 ?_ ?_ ?_ ?_); (focus rfl); (focus rfl); (focus rfl); intro K hK) | ((with_reducible refine wpT_x0 ?_ ?_ ?_); (focus rfl); (focus rfl); intro K hK) | ((with_reducible refine wpT_noL ?_ ?_); (focus (first | exact wanted_no _ _ _ rfl rfl rfl | exact wanted_un _ _ _ rfl rfl rfl)); simp only [setO, List.set_cons_succ, List.set_cons_zero]) | ((with_reducible refine wpT_q1 ?_ ?_ ?_ ?_); (focus exact wanted_yes _ _ _ rfl rfl rfl); (focus rfl); (focus rfl); intro K hK) | ((with_reducible refine wpT_x1 ?_ ?_ ?_); (focus exact wanted_yes _ _ _ rfl rfl rfl); (focus rfl); intro K hK) | ((with_reducible refine wpT_nil ?_); try dsimp only)
        | fail)
      all_goals exact bodyPost_ret (v := .tuple #[.agg #[.int .i64 m.1, .int .i64 m.2.1, .int .i64 m.2.2.1, .int .i64 m.2.2.2.1, .int .i64 m.2.2.2.2.1.1, .int .i64 m.2.2.2.2.1.2.1, .int .i64 m.2.2.2.2.1.2.2.1, .int .i64 m.2.2.2.2.1.2.2.2.1, .int .i64 m.2.2.2.2.1.2.2.2.2, .slice A n c, .slice B p d], .agg #[.int .i64 m.1, .int .i64 m.2.1, .int .i64 (m.2.2.1 + 1), .int .i64 m.2.2.2.1, .int .i64 m.2.2.2.2.1.1, .int .i64 m.2.2.2.2.1.2.1, .int .i64 m.2.2.2.2.1.2.2.1, .int .i64 m.2.2.2.2.1.2.2.2.1, .int .i64 m.2.2.2.2.1.2.2.2.2, .slice Aa m.2.2.2.2.2.1.length ca, .slice Bb m.2.2.2.2.2.2.length cb]]) (by simp [results, Try.results4, go_sem, p0, p1, p2, p3, p4, p5, p6, p7, p8, p9, p10, pf0, pf1, pf2, pf3, pf4, pf5, pf6, pf7, pf8, pf9, pf10, q0, q1, q2, q3, q4, q5, q6, q7, q8, q9, q10, qf0, qf1, qf2, qf3, qf4, qf5, qf6, qf7, qf8, qf9, qf10]) rfl hF.out
    · have e0 : ((k7 : Int) == 0) = false := by rw [h0]; decide
      have e1 : ((k7 : Int) == 1) = true := by rw [h0]; decide
      clear h0
      have hvq' := hide hvq
      have hvy : Hid (∀ k, (Value.slice Aa m.2.2.2.2.2.1.length ca).ownBlock = some k → ¬ k = w5.heap.size) := hide (fun k hk e => by have := (hwl.out k hk).2; omega)
      clear hvq
      go_wp2
      refine wp_region_O (fun _ => True) [28] [27] [] (Ord.seg [0, 2] (Ord.both 1 3 (Ord.seg [3, 4, 5, 6, 7] Ord.done) (Ord.seg [] (Ord.both 1 4 (Ord.seg [4, 5, 6, 7] Ord.done) (Ord.seg [1, 5, 6, 7] Ord.done))))) (by kernel_rfl) (by kernel_rfl) (by kernel_rfl) trivial ?_
      go_wp2_with (first
        | ((with_reducible refine wpT_x0 ?_ ?_ ?_); (focus rfl); (focus rfl); intro K hK; refine wp_appG encClaim_len (by omega) encClaim_one _ _ 25 rfl 40 _ 56 Try.underlying25 infoClaimD rfl w4.heap.size (.slice Aa m.2.2.2.2.2.1.length ca) m.2.2.2.2.2.1 rfl (hwa8.alloc _) 0 _ _ [c8] _ _ rfl rfl hsl8 (by simp [maxLen]; omega) (by simp; omega) ?_; intro v9 w9 ho9 hg9 hb9 hloc9; obtain ⟨A9, c9, hv9, _, hc9, _⟩ := ho9.form; rw [List.length_append, List.length_singleton] at hv9; subst hv9; have hA8 := (Below.refl w8.heap.size w8).alloc (Nat.le_refl _) (.cells #[.int .i64 c8.1, .int .i64 c8.2.1, .int .i64 c8.2.2.1, .int .i64 c8.2.2.2.1, .int .i64 c8.2.2.2.2.1, .int .i64 c8.2.2.2.2.2.1, .int .i64 c8.2.2.2.2.2.2] 40); have hy9 : LBox w9 w5.heap.size m (.slice Aa m.2.2.2.2.2.1.length ca) (.slice Bb m.2.2.2.2.2.2.length cb) := ((hg9.block _ (by simp; omega) (fun e => hvy.out _ e.symm rfl)).trans (hA8.block _ (by omega))).trans hy8; have hx9 := (hx8.below hA8 hx8.lt).below hb9 (by omega); have hP9 := (hP8.below hA8 hP8.lt).below hb9 (by omega); have hQ9 := (hQ8.below hA8 hQ8.lt).below hb9 (by omega); obtain ⟨x0, x1, x2, x3, x4, x5, x6, x7, x8, x9, x10, xf0, xf1, xf2, xf3, xf4, xf5, xf6, xf7, xf8, xf9, xf10⟩ := hx9.cells; obtain ⟨y0, y1, y2, y3, y4, y5, y6, y7, y8, y9, y10, yf0, yf1, yf2, yf3, yf4, yf5, yf6, yf7, yf8, yf9, yf10⟩ := hy9.cells; obtain ⟨p0, p1, p2, p3, p4, p5, p6, p7, p8, p9, p10, pf0, pf1, pf2, pf3, pf4, pf5, pf6, pf7, pf8, pf9, pf10⟩ := hP9.cells; obtain ⟨q0, q1, q2, q3, q4, q5, q6, q7, q8, q9, q10, qf0, qf1, qf2, qf3, qf4, qf5, qf6, qf7, qf8, qf9, qf10⟩ := hQ9.cells; have hly9 := hy9.lt; have ho9' := hide ho9; have hg9' := hide hg9; have hb9' := hide hb9; have hloc9' := hide hloc9; clear ho9 hg9 hb9 hloc9; have hK := hK)
        | (go_at_call 13; refine (l20Claim_c g _ w7.drew hr7 (by omega)).mono ?_; rintro e w8 ⟨c8, rfl, hr8, h8'⟩; have h8 : Only w7.heap.size (some g) w7 w8 := Only.trans (Only.drew (Only.refl _ _ w7)) h8'; have hx8 := hx7.only h8 hgx; have hy8 := hy7.only h8 hgy; have hP8 := hP7.only h8 hgP; have hQ8 := hQ7.only h8 hgQ; have hwa8 := hwa7.only h8 (Nat.le_refl _) (fun b hb e => by injection e; have := (hwa7.lt b hb).1; omega); have hsl8 := (sl_arr encClaim_len w8 #[.int .i64 c8.1, .int .i64 c8.2.1, .int .i64 c8.2.2.1, .int .i64 c8.2.2.2.1, .int .i64 c8.2.2.2.2.1, .int .i64 c8.2.2.2.2.2.1, .int .i64 c8.2.2.2.2.2.2] 40 [c8] rfl).mono (lo' := 0) (Nat.zero_le _) (Nat.le_refl _); have hz8 := h8.size; have hly8 := hy8.lt; obtain ⟨x0, x1, x2, x3, x4, x5, x6, x7, x8, x9, x10, xf0, xf1, xf2, xf3, xf4, xf5, xf6, xf7, xf8, xf9, xf10⟩ := hx8.cells; obtain ⟨y0, y1, y2, y3, y4, y5, y6, y7, y8, y9, y10, yf0, yf1, yf2, yf3, yf4, yf5, yf6, yf7, yf8, yf9, yf10⟩ := hy8.cells; obtain ⟨p0, p1, p2, p3, p4, p5, p6, p7, p8, p9, p10, pf0, pf1, pf2, pf3, pf4, pf5, pf6, pf7, pf8, pf9, pf10⟩ := hP8.cells; obtain ⟨q0, q1, q2, q3, q4, q5, q6, q7, q8, q9, q10, qf0, qf1, qf2, qf3, qf4, qf5, qf6, qf7, qf8, qf9, qf10⟩ := hQ8.cells)
        | ((with_reducible refine wpO_seg ?_); simp only [pickL, List.toList_toArray, List.getElem?_cons_succ, List.getElem?_cons_zero]) | ((with_reducible refine wpO_both ?_ ?_) <;> simp only [pickL, List.toList_toArray, List.getElem?_cons_succ, List.getElem?_cons_zero]) | ((with_reducible refine wpO_done ?_); try dsimp only) | ((with_reducible refine wpT_q0 ?_ ?_ ?_ ?_); (focus rfl); (focus rfl); (focus rfl); intro K hK) | ((with_reducible refine wpT_x0 ?_ ?_ ?_); (focus rfl); (focus rfl); intro K hK) | ((with_reducible refine wpT_noL ?_ ?_); (focus (first | exact wanted_no _ _ _ rfl rfl rfl | exact wanted_un _ _ _ rfl rfl rfl)); simp only [setO, List.set_cons_succ, List.set_cons_zero]) | ((with_reducible refine wpT_q1 ?_ ?_ ?_ ?_); (focus exact wanted_yes _ _ _ rfl rfl rfl); (focus rfl); (focus rfl); intro K hK) | ((with_reducible refine wpT_x1 ?_ ?_ ?_); (focus exact wanted_yes _ _ _ rfl rfl rfl); (focus rfl); intro K hK) | ((with_reducible refine wpT_nil ?_); try dsimp only)
        | fail)
      all_goals
        have hb8 : ∀ b, b < w5.heap.size → g ≠ b → w8.heap[b]? = w7.heap[b]? := fun b h1 h2 => h8.block b (by omega) (fun e => h2 (by injection e))
        have hB9 : Below w.heap.size w (w9.setCell ⟨w5.heap.size, 9, none⟩ (.slice A9 (m.2.2.2.2.2.1.length + 1) c9)) := ((((hB7'.out.trans (h8.toBelow hB7'.out.size (fun k hk => by injection hk with hk; omega)))).trans ((hA8.mono (by omega)).trans (hb9'.out.mono (by omega)))).setCell (p := ⟨w5.heap.size, 9, none⟩) (by show w.heap.size ≤ w5.heap.size; omega) _)
        have hs9 : (w9.setCell ⟨w5.heap.size, 9, none⟩ (.slice A9 (m.2.2.2.2.2.1.length + 1) c9)).heap.size = w9.heap.size := by simp [World.setCell]
        have hz9 : w8.heap.size + 1 ≤ w9.heap.size := by have := hb9'.out.size; simpa using this
        have hst : ∀ b, b ≠ w5.heap.size → (w9.setCell ⟨w5.heap.size, 9, none⟩ (.slice A9 (m.2.2.2.2.2.1.length + 1) c9)).heap[b]? = w9.heap[b]? := fun b h => Below.heap_setCell w9 ⟨w5.heap.size, 9, none⟩ _ b (by show b ≠ w5.heap.size; exact h)
        have hm9 : Read2 (w9.setCell ⟨w5.heap.size, 9, none⟩ (.slice A9 (m.2.2.2.2.2.1.length + 1) c9)) (w.heap.size + 2) w2.heap.size m A n c B p d := hm7'.out.keep (by omega) (Nat.le_refl _) (fun b h1 h2 => ((hst b (by omega)).trans (hb9'.out.block b (by omega))).trans ((hA8.block b (by omega)).trans (hb8 b (by omega) (by omega))))
        have ho9s := ho9'.out.keep (w' := w9.setCell ⟨w5.heap.size, 9, none⟩ (.slice A9 (m.2.2.2.2.2.1.length + 1) c9)) (fun b hb => hst b (fun e => by
          rcases hloc9'.out with h9 | h9
          · have h7 := hwl.out b (h9.symm.trans hb)
            omega
          · rw [h9] at hb
            injection hb with hb
            simp only [World.size_alloc] at hb
            omega))
        have hvo9 : RdN 2 voteR (w9.setCell ⟨w5.heap.size, 9, none⟩ (.slice A9 (m.2.2.2.2.2.1.length + 1) c9)) lq w5.heap.size Bb m.2.2.2.2.2.2.length cb m.2.2.2.2.2.2 := hvo7'.out.keep vote_kept (fun b h1 h2 => ((hst b (by omega)).trans (hg9'.out.block b (by simp only [World.size_alloc]; omega) (fun e => by have := hvq'.out b e.symm; omega))).trans ((hA8.block b (by omega)).trans (hb8 b (by omega) (by omega))))
        have hF : Hid (SamePost w (.returned (.tuple #[.agg #[.int .i64 m.1, .int .i64 m.2.1, .int .i64 m.2.2.1, .int .i64 m.2.2.2.1, .int .i64 m.2.2.2.2.1.1, .int .i64 m.2.2.2.2.1.2.1, .int .i64 m.2.2.2.2.1.2.2.1, .int .i64 m.2.2.2.2.1.2.2.2.1, .int .i64 m.2.2.2.2.1.2.2.2.2, .slice A n c, .slice B p d], .agg #[.int .i64 m.1, .int .i64 m.2.1, .int .i64 m.2.2.1, .int .i64 m.2.2.2.1, .int .i64 m.2.2.2.2.1.1, .int .i64 m.2.2.2.2.1.2.1, .int .i64 m.2.2.2.2.1.2.2.1, .int .i64 m.2.2.2.2.1.2.2.2.1, .int .i64 m.2.2.2.2.1.2.2.2.2, .slice A9 (m.2.2.2.2.2.1.length + 1) c9, .slice Bb m.2.2.2.2.2.2.length cb]])) (putCells (putCells (w9.setCell ⟨w5.heap.size, 9, none⟩ (.slice A9 (m.2.2.2.2.2.1.length + 1) c9)) w.heap.size 0 [.int .i64 m.1, .int .i64 m.2.1, .int .i64 m.2.2.1, .int .i64 m.2.2.2.1, .int .i64 m.2.2.2.2.1.1, .int .i64 m.2.2.2.2.1.2.1, .int .i64 m.2.2.2.2.1.2.2.1, .int .i64 m.2.2.2.2.1.2.2.2.1, .int .i64 m.2.2.2.2.1.2.2.2.2, .slice A n c, .slice B p d]) (w.heap.size + 1) 0 [.int .i64 m.1, .int .i64 m.2.1, .int .i64 m.2.2.1, .int .i64 m.2.2.2.1, .int .i64 m.2.2.2.2.1.1, .int .i64 m.2.2.2.2.1.2.1, .int .i64 m.2.2.2.2.1.2.2.1, .int .i64 m.2.2.2.2.1.2.2.2.1, .int .i64 m.2.2.2.2.1.2.2.2.2, .slice A9 (m.2.2.2.2.2.1.length + 1) c9, .slice Bb m.2.2.2.2.2.2.length cb]).drew) := hide (SamePost.drew <| sameFin (w := w) (w9 := w9.setCell ⟨w5.heap.size, 9, none⟩ (.slice A9 (m.2.2.2.2.2.1.length + 1) c9)) (x := (m.1, m.2.1, m.2.2.1, m.2.2.2.1, m.2.2.2.2.1, m.2.2.2.2.2.1 ++ [c8], m.2.2.2.2.2.2)) hB9 hm9 (by rw [hs9]; omega)
          (⟨(ho9s.rdn encClaim_len).mono (flat_kept _) (by omega) (Nat.le_refl _), hvo9.mono vote_kept (by omega) (by rw [hs9]; omega), by omega, by omega, hsm4⟩) (Nat.le_refl _))
        clear hb8 hB9 hs9 hm9 ho9s hvo9 hst
        refine wp_region_O (fun _ => True) [] [33, 34] [] (Ord.seg [] (Ord.both 0 1 (Ord.seg [] (Ord.both 1 2 (Ord.seg [2, 3] Ord.done) (Ord.seg [1, 3] Ord.done))) (Ord.seg [0, 2, 3] Ord.done))) (by kernel_rfl) (by kernel_rfl) (by kernel_rfl) trivial ?_
        go_wp2_with (first
          | ((with_reducible refine wpO_seg ?_); simp only [pickL, List.toList_toArray, List.getElem?_cons_succ, List.getElem?_cons_zero]) | ((with_reducible refine wpO_both ?_ ?_) <;> simp only [pickL, List.toList_toArray, List.getElem?_cons_succ, List.getElem?_cons_zero]) | ((with_reducible refine wpO_done ?_); try dsimp only) | ((with_reducible refine wpT_q0 ?_ ?_ ?_ ?_); (focus rfl); (focus rfl); (focus rfl); intro K hK) | ((with_reducible refine wpT_x0 ?_ ?_ ?_); (focus rfl); (focus rfl); intro K hK) | ((with_reducible refine wpT_noL ?_ ?_); (focus (first | exact wanted_no _ _ _ rfl rfl rfl | exact wanted_un _ _ _ rfl rfl rfl)); simp only [setO, List.set_cons_succ, List.set_cons_zero]) | ((with_reducible refine wpT_q1 ?_ ?_ ?_ ?_); (focus exact wanted_yes _ _ _ rfl rfl rfl); (focus rfl); (focus rfl); intro K hK) | ((with_reducible refine wpT_x1 ?_ ?_ ?_); (focus exact wanted_yes _ _ _ rfl rfl rfl); (focus rfl); intro K hK) | ((with_reducible refine wpT_nil ?_); try dsimp only)
          | fail)
        all_goals exact bodyPost_ret (v := .tuple #[.agg #[.int .i64 m.1, .int .i64 m.2.1, .int .i64 m.2.2.1, .int .i64 m.2.2.2.1, .int .i64 m.2.2.2.2.1.1, .int .i64 m.2.2.2.2.1.2.1, .int .i64 m.2.2.2.2.1.2.2.1, .int .i64 m.2.2.2.2.1.2.2.2.1, .int .i64 m.2.2.2.2.1.2.2.2.2, .slice A n c, .slice B p d], .agg #[.int .i64 m.1, .int .i64 m.2.1, .int .i64 m.2.2.1, .int .i64 m.2.2.2.1, .int .i64 m.2.2.2.2.1.1, .int .i64 m.2.2.2.2.1.2.1, .int .i64 m.2.2.2.2.1.2.2.1, .int .i64 m.2.2.2.2.1.2.2.2.1, .int .i64 m.2.2.2.2.1.2.2.2.2, .slice A9 (m.2.2.2.2.2.1.length + 1) c9, .slice Bb m.2.2.2.2.2.2.length cb]]) (by simp [results, Try.results4, go_sem, p0, p1, p2, p3, p4, p5, p6, p7, p8, p9, p10, pf0, pf1, pf2, pf3, pf4, pf5, pf6, pf7, pf8, pf9, pf10, q0, q1, q2, q3, q4, q5, q6, q7, q8, q9, q10, qf0, qf1, qf2, qf3, qf4, qf5, qf6, qf7, qf8, qf9, qf10]) rfl hF.out
    · have e0 : ((k7 : Int) == 0) = false := by simp only [beq_eq_false_iff_ne, ne_eq]; omega
      have e1 : ((k7 : Int) == 1) = false := by simp only [beq_eq_false_iff_ne, ne_eq]; omega
      have hF : Hid (SamePost w (.returned (.tuple #[.agg #[.int .i64 m.1, .int .i64 m.2.1, .int .i64 m.2.2.1, .int .i64 m.2.2.2.1, .int .i64 m.2.2.2.2.1.1, .int .i64 m.2.2.2.2.1.2.1, .int .i64 m.2.2.2.2.1.2.2.1, .int .i64 m.2.2.2.2.1.2.2.2.1, .int .i64 m.2.2.2.2.1.2.2.2.2, .slice A n c, .slice B p d], .agg #[.int .i64 m.1, .int .i64 m.2.1, .int .i64 m.2.2.1, .int .i64 m.2.2.2.1, .int .i64 m.2.2.2.2.1.1, .int .i64 m.2.2.2.2.1.2.1, .int .i64 m.2.2.2.2.1.2.2.1, .int .i64 m.2.2.2.2.1.2.2.2.1, .int .i64 m.2.2.2.2.1.2.2.2.2, .slice Aa m.2.2.2.2.2.1.length ca, .slice Bb m.2.2.2.2.2.2.length cb]])) (putCells (putCells w7 w.heap.size 0 [.int .i64 m.1, .int .i64 m.2.1, .int .i64 m.2.2.1, .int .i64 m.2.2.2.1, .int .i64 m.2.2.2.2.1.1, .int .i64 m.2.2.2.2.1.2.1, .int .i64 m.2.2.2.2.1.2.2.1, .int .i64 m.2.2.2.2.1.2.2.2.1, .int .i64 m.2.2.2.2.1.2.2.2.2, .slice A n c, .slice B p d]) (w.heap.size + 1) 0 [.int .i64 m.1, .int .i64 m.2.1, .int .i64 m.2.2.1, .int .i64 m.2.2.2.1, .int .i64 m.2.2.2.2.1.1, .int .i64 m.2.2.2.2.1.2.1, .int .i64 m.2.2.2.2.1.2.2.1, .int .i64 m.2.2.2.2.1.2.2.2.1, .int .i64 m.2.2.2.2.1.2.2.2.2, .slice Aa m.2.2.2.2.2.1.length ca, .slice Bb m.2.2.2.2.2.2.length cb]).drew) := hide (SamePost.drew <| sameFin (w := w) (w9 := w7) hB7'.out (hm7'.out.keep (by omega) (Nat.le_refl _) (fun b _ h => rfl)) (by omega) (hxx7'.out.keep (by omega) (Nat.le_refl _) (fun b _ h => rfl)) (by omega))
      clear h0
      go_wp2
      refine wp_region_O (fun _ => True) [] [33, 34] [] (Ord.seg [] (Ord.both 0 1 (Ord.seg [] (Ord.both 1 2 (Ord.seg [2, 3] Ord.done) (Ord.seg [1, 3] Ord.done))) (Ord.seg [0, 2, 3] Ord.done))) (by kernel_rfl) (by kernel_rfl) (by kernel_rfl) trivial ?_
      go_wp2_with (first
        | ((with_reducible refine wpO_seg ?_); simp only [pickL, List.toList_toArray, List.getElem?_cons_succ, List.getElem?_cons_zero]) | ((with_reducible refine wpO_both ?_ ?_) <;> simp only [pickL, List.toList_toArray, List.getElem?_cons_succ, List.getElem?_cons_zero]) | ((with_reducible refine wpO_done ?_); try dsimp only) | ((with_reducible refine wpT_q0 ?_ ?_ ?_ ?_); (focus rfl); (focus rfl); (focus rfl); intro K hK) | ((with_reducible refine wpT_x0 ?_ ?_ ?_); (focus rfl); (focus rfl); intro K hK) | ((with_reducible refine wpT_noL ?_ ?_); (focus (first | exact wanted_no _ _ _ rfl rfl rfl | exact wanted_un _ _ _ rfl rfl rfl)); simp only [setO, List.set_cons_succ, List.set_cons_zero]) | ((with_reducible refine wpT_q1 ?_ ?_ ?_ ?_); (focus exact wanted_yes _ _ _ rfl rfl rfl); (focus rfl); (focus rfl); intro K hK) | ((with_reducible refine wpT_x1 ?_ ?_ ?_); (focus exact wanted_yes _ _ _ rfl rfl rfl); (focus rfl); intro K hK) | ((with_reducible refine wpT_nil ?_); try dsimp only)
        | fail)
      all_goals exact bodyPost_ret (v := .tuple #[.agg #[.int .i64 m.1, .int .i64 m.2.1, .int .i64 m.2.2.1, .int .i64 m.2.2.2.1, .int .i64 m.2.2.2.2.1.1, .int .i64 m.2.2.2.2.1.2.1, .int .i64 m.2.2.2.2.1.2.2.1, .int .i64 m.2.2.2.2.1.2.2.2.1, .int .i64 m.2.2.2.2.1.2.2.2.2, .slice A n c, .slice B p d], .agg #[.int .i64 m.1, .int .i64 m.2.1, .int .i64 m.2.2.1, .int .i64 m.2.2.2.1, .int .i64 m.2.2.2.2.1.1, .int .i64 m.2.2.2.2.1.2.1, .int .i64 m.2.2.2.2.1.2.2.1, .int .i64 m.2.2.2.2.1.2.2.2.1, .int .i64 m.2.2.2.2.1.2.2.2.2, .slice Aa m.2.2.2.2.2.1.length ca, .slice Bb m.2.2.2.2.2.2.length cb]]) (by simp [results, Try.results4, go_sem, p0, p1, p2, p3, p4, p5, p6, p7, p8, p9, p10, pf0, pf1, pf2, pf3, pf4, pf5, pf6, pf7, pf8, pf9, pf10, q0, q1, q2, q3, q4, q5, q6, q7, q8, q9, q10, qf0, qf1, qf2, qf3, qf4, qf5, qf6, qf7, qf8, qf9, qf10]) rfl hF.out
  · have d1 : ((k4 : Int) == 0) = false := by simp only [beq_eq_false_iff_ne, ne_eq]; omega
    obtain ⟨p0, p1, p2, p3, p4, p5, p6, p7, p8, p9, p10, pf0, pf1, pf2, pf3, pf4, pf5, pf6, pf7, pf8, pf9, pf10⟩ := hP4.cells
    obtain ⟨q0, q1, q2, q3, q4, q5, q6, q7, q8, q9, q10, qf0, qf1, qf2, qf3, qf4, qf5, qf6, qf7, qf8, qf9, qf10⟩ := hQ4.cells
    have hm4' := hide hm4
    have hB4' := hide hB4
    clear hm4 hB4
    go_wp2
    refine wp_region_O (fun _ => True) [] [35] [] (Ord.seg [1] (Ord.both 0 2 (Ord.seg [2, 3, 4] Ord.done) (Ord.seg [0, 3, 4] Ord.done))) (by kernel_rfl) (by kernel_rfl) (by kernel_rfl) trivial ?_
    go_wp2_with (first
      | (go_at_call 10; refine (l20AnyMsg_c g _ w4.drew hr4 (by omega)).mono ?_; rintro e w5 ⟨x, A', n', c', B', p', d', rfl, hx5, hr5, h5'⟩; have h5 : Only w4.heap.size (some g) w4 w5 := Only.trans (Only.drew (Only.refl _ _ w4)) h5'; have hx5b := hx4.only h5 hgx; have hP5 := hP4.only h5 hgP; have hQ5 := hQ4.only h5 hgQ; obtain ⟨x0, x1, x2, x3, x4, x5, x6, x7, x8, x9, x10, xf0, xf1, xf2, xf3, xf4, xf5, xf6, xf7, xf8, xf9, xf10⟩ := hx5b.cells; obtain ⟨p0, p1, p2, p3, p4, p5, p6, p7, p8, p9, p10, pf0, pf1, pf2, pf3, pf4, pf5, pf6, pf7, pf8, pf9, pf10⟩ := hP5.cells; obtain ⟨q0, q1, q2, q3, q4, q5, q6, q7, q8, q9, q10, qf0, qf1, qf2, qf3, qf4, qf5, qf6, qf7, qf8, qf9, qf10⟩ := hQ5.cells; have hF := hide (sameFin (hB4'.out.trans (h5.toBelow hB4'.out.size (fun k hk => by injection hk with hk; omega))) (hm4'.out.keep (by omega) (Nat.le_refl _) (fun b hb1 hb2 => h5.block b (by omega) (fun e => by injection e; omega))) (by have := h5.size; omega) (hx5.two.keep (by simp; omega) (Nat.le_refl _) (fun b _ _ => rfl)) (Nat.le_refl _)); clear hx5 hr5 h5 h5')
      | ((with_reducible refine wpO_seg ?_); simp only [pickL, List.toList_toArray, List.getElem?_cons_succ, List.getElem?_cons_zero]) | ((with_reducible refine wpO_both ?_ ?_) <;> simp only [pickL, List.toList_toArray, List.getElem?_cons_succ, List.getElem?_cons_zero]) | ((with_reducible refine wpO_done ?_); try dsimp only) | ((with_reducible refine wpT_q0 ?_ ?_ ?_ ?_); (focus rfl); (focus rfl); (focus rfl); intro K hK) | ((with_reducible refine wpT_x0 ?_ ?_ ?_); (focus rfl); (focus rfl); intro K hK) | ((with_reducible refine wpT_noL ?_ ?_); (focus (first | exact wanted_no _ _ _ rfl rfl rfl | exact wanted_un _ _ _ rfl rfl rfl)); simp only [setO, List.set_cons_succ, List.set_cons_zero]) | ((with_reducible refine wpT_q1 ?_ ?_ ?_ ?_); (focus exact wanted_yes _ _ _ rfl rfl rfl); (focus rfl); (focus rfl); intro K hK) | ((with_reducible refine wpT_x1 ?_ ?_ ?_); (focus exact wanted_yes _ _ _ rfl rfl rfl); (focus rfl); intro K hK) | ((with_reducible refine wpT_nil ?_); try dsimp only)
      | fail)
    all_goals exact bodyPost_ret (v := .tuple #[.agg #[.int .i64 m.1, .int .i64 m.2.1, .int .i64 m.2.2.1, .int .i64 m.2.2.2.1, .int .i64 m.2.2.2.2.1.1, .int .i64 m.2.2.2.2.1.2.1, .int .i64 m.2.2.2.2.1.2.2.1, .int .i64 m.2.2.2.2.1.2.2.2.1, .int .i64 m.2.2.2.2.1.2.2.2.2, .slice A n c, .slice B p d], .agg #[.int .i64 x.1, .int .i64 x.2.1, .int .i64 x.2.2.1, .int .i64 x.2.2.2.1, .int .i64 x.2.2.2.2.1.1, .int .i64 x.2.2.2.2.1.2.1, .int .i64 x.2.2.2.2.1.2.2.1, .int .i64 x.2.2.2.2.1.2.2.2.1, .int .i64 x.2.2.2.2.1.2.2.2.2, .slice A' n' c', .slice B' p' d']]) (by simp [results, Try.results4, go_sem, x0, x1, x2, x3, x4, x5, x6, x7, x8, x9, x10, xf0, xf1, xf2, xf3, xf4, xf5, xf6, xf7, xf8, xf9, xf10, p0, p1, p2, p3, p4, p5, p6, p7, p8, p9, p10, pf0, pf1, pf2, pf3, pf4, pf5, pf6, pf7, pf8, pf9, pf10, q0, q1, q2, q3, q4, q5, q6, q7, q8, q9, q10, qf0, qf1, qf2, qf3, qf4, qf5, qf6, qf7, qf8, qf9, qf10]) rfl hF.out
end Go.Proofs.Ytkmoefgnejhpoaa
