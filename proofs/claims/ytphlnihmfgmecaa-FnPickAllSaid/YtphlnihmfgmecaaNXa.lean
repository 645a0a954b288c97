/-
  Keepers: 'RepOk' in the reference. (Printed by gen_nlr.py.)
  Conditions: none.
-/
import Derived.Test.YtphlnihmfgmecaaNS
namespace Go.Proofs.Ytphlnihmfgmecaa
open Go.RowKit Rg
set_option linter.unusedVariables false
set_option linter.unusedSimpArgs false

theorem repR_inv {w : World} {lo hi : Nat} {t : RepT} {A B E : Option Addr} {n c p d q f : Nat} (h : repR w lo hi [.int .i64 t.1, .int .i64 t.2.1, .bool t.2.2.1, .int .i64 t.2.2.2.1, .slice A n c, .slice B p d, .slice E q f] t) : RdN 7 clR w lo hi A n c t.2.2.2.2.1 ∧ RdN 11 msgR w lo hi B p d t.2.2.2.2.2.1 ∧ RdN 7 clR w lo hi E q f t.2.2.2.2.2.2 := by
  obtain ⟨A9, n9, c9, B9, p9, d9, E9, q9, f9, he, r0, r1, r2⟩ := h
  simp only [List.cons.injEq, Value.slice.injEq, true_and, and_true] at he
  obtain ⟨⟨e0a, e0b, e0c⟩, ⟨e1a, e1b, e1c⟩, ⟨e2a, e2b, e2c⟩⟩ := he
  subst e0a; subst e0b; subst e0c; subst e1a; subst e1b; subst e1c; subst e2a; subst e2b; subst e2c
  exact ⟨r0, r1, r2⟩

theorem specRepOk_c (t : RepT) (A B E : Option Addr) (n c p d q f : Nat) (lo hi : Nat) (w : World) (h0 : RdN 7 clR w lo hi A n c t.2.2.2.2.1) (h1 : RdN 11 msgR w lo hi B p d t.2.2.2.2.2.1) (h2 : RdN 7 clR w lo hi E q f t.2.2.2.2.2.2) (hhi : hi ≤ w.heap.size) : Calls Try.prog 55 #[.agg #[.int .i64 t.1, .int .i64 t.2.1, .bool t.2.2.1, .int .i64 t.2.2.2.1, .slice A n c, .slice B p d, .slice E q f]] w fun e w' => e = .returned (.bool (okRep t)) ∧ Below w.heap.size w w' := by
  have hA := (Below.refl w.heap.size w).alloc (Nat.le_refl _) (.cells #[.int .i64 t.1, .int .i64 t.2.1, .bool t.2.2.1, .int .i64 t.2.2.2.1, .slice A n c, .slice B p d, .slice E q f] 39)
  have hz := hA.size
  go_enter Try.func55, Try.ntmps55
  go_wp2_with fail
  refine (l5Ok_c t A B E n c p d q f lo hi _ (h0.below (flat_kept _) hA hhi) (h1.below msg_kept hA hhi) (h2.below (flat_kept _) hA hhi) (Nat.le_trans hhi hz)).mono ?_
  rintro e w1 ⟨rfl, hb1⟩
  go_wp2
  go_ret
  exact ⟨rfl, hA.trans (hb1.mono hz)⟩
end Go.Proofs.Ytphlnihmfgmecaa
