/-
  'markGame' of an owned game.
  Conditions: none.
-/
import Derived.Test.YtipdkcdhnppdoaaHZe
namespace Go.Proofs.Ytipdkcdhnppdoaa
open Go.RowKit Rg
set_option linter.unusedVariables false
set_option linter.unusedSimpArgs false

set_option maxRecDepth 100000 in
set_option maxHeartbeats 2000000 in
theorem markGame_c (A : Option Addr) (n : Nat) (B : Option Addr) (p : Nat) (E : Option Addr) (q lo : Nat) (g : GameT) (w : World) (hg : GmO w lo A n n B p p E q q g) (hlo : lo ≤ w.heap.size) (hl : g.1.length ≤ 1000 ∧ g.2.1.length ≤ 1000 ∧ g.2.2.length ≤ 1000) :
    Calls Try.prog 13 #[.agg #[.slice A n n, .slice B p p, .slice E q q], .int .i64 1] w fun e w' => e = .returned (.int .i64 (((1 + 5 * n + p : Nat) : Int) + q)) ∧ GmO w' lo A n n B p p E q q (marksEnt 1 n, imarks (1 + 5 * n) p, imarks (1 + 5 * n + p) q) ∧ Below lo w w' ∧ (∀ b, b < w.heap.size → (Value.slice A n n).ownBlock ≠ some b → (Value.slice B p p).ownBlock ≠ some b → (Value.slice E q q).ownBlock ≠ some b → w'.heap[b]? = w.heap[b]?) := by
  have hA0 := (Below.refl w.heap.size w).alloc (Nat.le_refl _) (.cells #[.slice A n n, .slice B p p, .slice E q q] 27)
  have hx0 := Bx3.made w (.slice A n n) (.slice B p p) (.slice E q q) 27
  have hg1 := hide (hg.below hA0)
  obtain ⟨xx0, xx1, xx2, xf0, xf1, xf2⟩ := hx0.cells
  have hnx : Hid (∀ k, ((Value.slice A n n).ownBlock = some k ∨ (Value.slice B p p).ownBlock = some k ∨ (Value.slice E q q).ownBlock = some k) → lo ≤ k ∧ k < w.heap.size) := hide (fun k hk => by
    rcases hk with h | h | h
    · exact hg.en.lt k h
    · exact hg.fl.lt k h
    · exact hg.la.lt k h)
  have hz1 : w.heap.size + 1 ≤ (w.alloc (.cells #[.slice A n n, .slice B p p, .slice E q q] 27)).heap.size := by simp only [World.size_alloc]; omega
  have hn := hide hg.en.lenEq
  have hp := hide hg.fl.lenEq
  have hq := hide hg.la.lenEq
  have hlH := hide hl
  have hab := hide hg.ab
  have hae := hide hg.ae
  have hbe := hide hg.be
  have hbn : n ≤ 1000 := by have := hn.out; have := hl.1; omega
  have hbp : p ≤ 1000 := by have := hp.out; have := hl.2.1; omega
  have hbq : q ≤ 1000 := by have := hq.out; have := hl.2.2; omega
  clear hg hl
  go_enter Try.func13, Try.ntmps13
  go_wp2_with fail
  generalize w.alloc (.cells #[.slice A n n, .slice B p p, .slice E q q] 27) = w1 at *
  refine (markEntS_c A n n lo 1 g.1 w1 hn.out (by omega) (by omega) (by omega) hg1.out.en).mono ?_
  rintro e w2 ⟨rfl, ho2, hb2⟩
  have hz2 := hb2.size
  have hx2 := hx0.keep (hb2.block w.heap.size (by omega) (fun e => by have := (hnx.out _ (.inl e)).2; omega))
  clear xx0 xx1 xx2 xf0 xf1 xf2
  obtain ⟨xx0, xx1, xx2, xf0, xf1, xf2⟩ := hx2.cells
  have ho2h := hide ho2
  have hfl2 := hide (hg1.out.fl.keep (fun b hb => hb2.block b (by have := (hnx.out b (.inr (.inl hb))).2; omega) (fun e => hab.out b e hb)))
  have hla2 := hide (hg1.out.la.keep (fun b hb => hb2.block b (by have := (hnx.out b (.inr (.inr hb))).2; omega) (fun e => hae.out b e hb)))
  have hB2 := hide ((hA0.mono hlo).trans (hb2.toBelow (B' := lo) (by omega) (fun k hk => (hnx.out k (.inl hk)).1)))
  clear ho2
  rw [show (1 : Int) + 5 * (n : Int) = ((1 + 5 * n : Nat) : Int) by omega]
  go_wp2_with fail
  refine (markIntS_c B p p lo (1 + 5 * n) g.2.1 w2 hp.out (by omega) (by omega) (by omega) hfl2.out).mono ?_
  rintro e w3 ⟨rfl, ho3, hb3⟩
  have hz3 := hb3.size
  have hx3 := hx2.keep (hb3.block w.heap.size (by omega) (fun e => by have := (hnx.out _ (.inr (.inl e))).2; omega))
  clear xx0 xx1 xx2 xf0 xf1 xf2
  obtain ⟨xx0, xx1, xx2, xf0, xf1, xf2⟩ := hx3.cells
  have ho3h := hide ho3
  have hen3 := hide (ho2h.out.keep (fun b hb => hb3.block b (by have := (hnx.out b (.inl hb)).2; omega) (fun e => hab.out b hb e)))
  have hla3 := hide (hla2.out.keep (fun b hb => hb3.block b (by have := (hnx.out b (.inr (.inr hb))).2; omega) (fun e => hbe.out b e hb)))
  have hB3 := hide (hB2.out.trans (hb3.toBelow (B' := lo) (by omega) (fun k hk => (hnx.out k (.inr (.inl hk))).1)))
  clear ho3
  rw [show ((1 + 5 * n : Nat) : Int) + (p : Int) = ((1 + 5 * n + p : Nat) : Int) by omega]
  go_wp2_with fail
  refine (markIntS_c E q q lo (1 + 5 * n + p) g.2.2 w3 hq.out (by omega) (by omega) (by omega) hla3.out).mono ?_
  rintro e w4 ⟨rfl, ho4, hb4⟩
  have hz4 := hb4.size
  have ho4h := hide ho4
  have hen4 := hide (hen3.out.keep (fun b hb => hb4.block b (by have := (hnx.out b (.inl hb)).2; omega) (fun e => hae.out b hb e)))
  have hfl4 := hide (ho3h.out.keep (fun b hb => hb4.block b (by have := (hnx.out b (.inr (.inl hb))).2; omega) (fun e => hbe.out b hb e)))
  have hB4 := hide (hB3.out.trans (hb4.toBelow (B' := lo) (by omega) (fun k hk => (hnx.out k (.inr (.inr hk))).1)))
  clear ho4
  go_wp2
  go_ret
  exact ⟨rfl, ⟨hen4.out, hfl4.out, ho4h.out, hab.out, hae.out, hbe.out⟩, hB4.out, fun b hb h1 h2 h3 => (hb4.block b (by omega) h3).trans ((hb3.block b (by omega) h2).trans ((hb2.block b (by omega) h1).trans (hA0.block b hb)))⟩
end Go.Proofs.Ytipdkcdhnppdoaa
