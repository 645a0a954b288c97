/-
  Worlds: 'WorldOk' in the reference. (Printed by gen_nlr.py.)
  Conditions: none.
-/
import Derived.Test.YtphlnihmfgmecaaNT
namespace Go.Proofs.Ytphlnihmfgmecaa
open Go.RowKit Rg
set_option linter.unusedVariables false
set_option linter.unusedSimpArgs false

theorem worldR_inv {w : World} {lo hi : Nat} {t : WorldT} {A B : Option Addr} {n c p d : Nat} (h : worldR w lo hi [.int .i64 t.1, .slice A n c, .slice B p d] t) : RdN 7 repR w lo hi A n c t.2.1 ∧ RdN 11 msgR w lo hi B p d t.2.2 := by
  obtain ⟨A9, n9, c9, B9, p9, d9, he, r0, r1⟩ := h
  simp only [List.cons.injEq, Value.slice.injEq, true_and, and_true] at he
  obtain ⟨⟨e0a, e0b, e0c⟩, ⟨e1a, e1b, e1c⟩⟩ := he
  subst e0a; subst e0b; subst e0c; subst e1a; subst e1b; subst e1c
  exact ⟨r0, r1⟩

theorem specWorldOk_c (t : WorldT) (A B : Option Addr) (n c p d : Nat) (lo hi : Nat) (w : World) (h0 : RdN 7 repR w lo hi A n c t.2.1) (h1 : RdN 11 msgR w lo hi B p d t.2.2) (hhi : hi ≤ w.heap.size) : Calls Try.prog 61 #[.agg #[.int .i64 t.1, .slice A n c, .slice B p d]] w fun e w' => e = .returned (.bool (okWorld t)) ∧ Below w.heap.size w w' := by
  have hA := (Below.refl w.heap.size w).alloc (Nat.le_refl _) (.cells #[.int .i64 t.1, .slice A n c, .slice B p d] 46)
  have hz := hA.size
  go_enter Try.func61, Try.ntmps61
  go_wp2_with fail
  refine (l6Ok_c t A B n c p d lo hi _ (h0.below rep_kept hA hhi) (h1.below msg_kept hA hhi) (Nat.le_trans hhi hz)).mono ?_
  rintro e w1 ⟨rfl, hb1⟩
  go_wp2
  go_ret
  exact ⟨rfl, hA.trans (hb1.mono hz)⟩
end Go.Proofs.Ytphlnihmfgmecaa
