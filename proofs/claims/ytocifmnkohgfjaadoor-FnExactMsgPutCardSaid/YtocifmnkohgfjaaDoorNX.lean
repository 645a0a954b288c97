/-
  Letters: 'MsgOk' in both packages, stated alike. (Printed by gen_nlaw.py.)
  Conditions: none.
-/
import Derived.Test.YtocifmnkohgfjaaDoorNN
import Derived.Test.YtocifmnkohgfjaaDoorNJ
namespace Go.Proofs.YtocifmnkohgfjaaDoor
open Go.RowKit Rg
set_option linter.unusedVariables false
set_option linter.unusedSimpArgs false

theorem msgR_inv {w : World} {lo hi : Nat} {t : MsgT} {A B : Option Addr} {n c p d : Nat} (h : msgR w lo hi [.int .i64 t.1, .int .i64 t.2.1, .int .i64 t.2.2.1, .int .i64 t.2.2.2.1, .int .i64 t.2.2.2.2.1.1, .int .i64 t.2.2.2.2.1.2.1, .int .i64 t.2.2.2.2.1.2.2.1, .int .i64 t.2.2.2.2.1.2.2.2.1, .int .i64 t.2.2.2.2.1.2.2.2.2, .slice A n c, .slice B p d] t) : RdN 7 clR w lo hi A n c t.2.2.2.2.2.1 ∧ RdN 2 voteR w lo hi B p d t.2.2.2.2.2.2 := by
  obtain ⟨A9, n9, c9, B9, p9, d9, he, r0, r1⟩ := h
  simp only [List.cons.injEq, Value.slice.injEq, true_and, and_true] at he
  obtain ⟨⟨e0a, e0b, e0c⟩, ⟨e1a, e1b, e1c⟩⟩ := he
  subst e0a; subst e0b; subst e0c; subst e1a; subst e1b; subst e1c
  exact ⟨r0, r1⟩

theorem l3Ok_c (t : MsgT) (A B : Option Addr) (n c p d : Nat) (lo hi : Nat) (w : World) (h0 : RdN 7 clR w lo hi A n c t.2.2.2.2.2.1) (h1 : RdN 2 voteR w lo hi B p d t.2.2.2.2.2.2) (hhi : hi ≤ w.heap.size) : Calls Tryd.prog 11 #[.agg #[.int .i64 t.1, .int .i64 t.2.1, .int .i64 t.2.2.1, .int .i64 t.2.2.2.1, .int .i64 t.2.2.2.2.1.1, .int .i64 t.2.2.2.2.1.2.1, .int .i64 t.2.2.2.2.1.2.2.1, .int .i64 t.2.2.2.2.1.2.2.2.1, .int .i64 t.2.2.2.2.1.2.2.2.2, .slice A n c, .slice B p d]] w fun e w' => e = .returned (.bool (okMsg t)) ∧ Below w.heap.size w w' :=
  l3Ok_v t.1 t.2.1 t.2.2.1 t.2.2.2.1 t.2.2.2.2.1.1 t.2.2.2.2.1.2.1 t.2.2.2.2.1.2.2.1 t.2.2.2.2.1.2.2.2.1 t.2.2.2.2.1.2.2.2.2 t.2.2.2.2.2.1 t.2.2.2.2.2.2 A B n c p d lo hi w h0 h1 hhi

theorem MsgOkT_c (t : MsgT) (A B : Option Addr) (n c p d : Nat) (lo hi : Nat) (w : World) (h0 : RdN 7 clR w lo hi A n c t.2.2.2.2.2.1) (h1 : RdN 2 voteR w lo hi B p d t.2.2.2.2.2.2) (hhi : hi ≤ w.heap.size) : Calls Tryd.prog 16 #[.agg #[.int .i64 t.1, .int .i64 t.2.1, .int .i64 t.2.2.1, .int .i64 t.2.2.2.1, .int .i64 t.2.2.2.2.1.1, .int .i64 t.2.2.2.2.1.2.1, .int .i64 t.2.2.2.2.1.2.2.1, .int .i64 t.2.2.2.2.1.2.2.2.1, .int .i64 t.2.2.2.2.1.2.2.2.2, .slice A n c, .slice B p d]] w fun e w' => e = .returned (.bool (okMsg t)) ∧ Below w.heap.size w w' :=
  MsgOk_c t.1 t.2.1 t.2.2.1 t.2.2.2.1 t.2.2.2.2.1.1 t.2.2.2.2.1.2.1 t.2.2.2.2.1.2.2.1 t.2.2.2.2.1.2.2.2.1 t.2.2.2.2.1.2.2.2.2 t.2.2.2.2.2.1 t.2.2.2.2.2.2 A B n c p d lo hi w h0 h1 hhi

end Go.Proofs.YtocifmnkohgfjaaDoor
