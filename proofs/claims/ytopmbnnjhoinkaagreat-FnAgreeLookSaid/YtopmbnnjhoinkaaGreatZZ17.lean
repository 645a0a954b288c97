/-
  What 'LAc' rests on (texts of this seat put together: NN NX NVa).
  Conditions: none.
-/
import Derived.Test.YtopmbnnjhoinkaaGreatZZ15
import Derived.Test.YtopmbnnjhoinkaaGreatZZ13
import Derived.Test.YtopmbnnjhoinkaaGreatZZ14
import Derived.Test.YtopmbnnjhoinkaaGreatZZ5
namespace Go.Proofs.YtopmbnnjhoinkaaGreat
open Go.RowKit Rg
set_option linter.unusedVariables false
set_option linter.unusedSimpArgs false
set_option maxHeartbeats 1000000
theorem l3Ok_c (t : MsgT) (A B : Option Addr) (n c p d : Nat) (lo hi : Nat) (w : World) (h0 : RdN 7 clR w lo hi A n c t.2.2.2.2.2.1) (h1 : RdN 2 voteR w lo hi B p d t.2.2.2.2.2.2) (hhi : hi ≤ w.heap.size) : Calls Tryz.prog 28 #[.agg #[.int .i64 t.1, .int .i64 t.2.1, .int .i64 t.2.2.1, .int .i64 t.2.2.2.1, .int .i64 t.2.2.2.2.1.1, .int .i64 t.2.2.2.2.1.2.1, .int .i64 t.2.2.2.2.1.2.2.1, .int .i64 t.2.2.2.2.1.2.2.2.1, .int .i64 t.2.2.2.2.1.2.2.2.2, .slice A n c, .slice B p d]] w fun e w' => e = .returned (.bool (okMsg t)) ∧ Below w.heap.size w w' :=
  l3Ok_v t.1 t.2.1 t.2.2.1 t.2.2.2.1 t.2.2.2.2.1.1 t.2.2.2.2.1.2.1 t.2.2.2.2.1.2.2.1 t.2.2.2.2.1.2.2.2.1 t.2.2.2.2.1.2.2.2.2 t.2.2.2.2.2.1 t.2.2.2.2.2.2 A B n c p d lo hi w h0 h1 hhi
theorem MsgOkT_c (t : MsgT) (A B : Option Addr) (n c p d : Nat) (lo hi : Nat) (w : World) (h0 : RdN 7 clR w lo hi A n c t.2.2.2.2.2.1) (h1 : RdN 2 voteR w lo hi B p d t.2.2.2.2.2.2) (hhi : hi ≤ w.heap.size) : Calls Tryz.prog 23 #[.agg #[.int .i64 t.1, .int .i64 t.2.1, .int .i64 t.2.2.1, .int .i64 t.2.2.2.1, .int .i64 t.2.2.2.2.1.1, .int .i64 t.2.2.2.2.1.2.1, .int .i64 t.2.2.2.2.1.2.2.1, .int .i64 t.2.2.2.2.1.2.2.2.1, .int .i64 t.2.2.2.2.1.2.2.2.2, .slice A n c, .slice B p d]] w fun e w' => e = .returned (.bool (okMsg t)) ∧ Below w.heap.size w w' :=
  MsgOk_c t.1 t.2.1 t.2.2.1 t.2.2.2.1 t.2.2.2.2.1.1 t.2.2.2.2.1.2.1 t.2.2.2.2.1.2.2.1 t.2.2.2.2.1.2.2.2.1 t.2.2.2.2.1.2.2.2.2 t.2.2.2.2.2.1 t.2.2.2.2.2.2 A B n c p d lo hi w h0 h1 hhi
theorem BxC.only {w w' : World} {b : Nat} {t : ClaimT} {g : Option Nat} (h : BxC w b t) (ho : Only w.heap.size g w w') (hne : g ≠ some b) : BxC w' b t := (ho.block b h.lt hne).trans h
theorem Grow.lt {α : Type} {sz : Nat} {e : TypeId} {R : ElR α} {w : World} {lo : Nat} {v : Value} {ts : List α} (h : Grow sz e R w lo v ts) : ∀ k, v.ownBlock = some k → lo ≤ k ∧ k < w.heap.size := by
  obtain ⟨ls, h1, _⟩ := h
  exact h1.lt
theorem Grow.only {α : Type} {sz : Nat} {e : TypeId} {R : ElR α} {w w' : World} {lo g : Nat} {v : Value} {ts : List α} (K : Kept R) (h : Grow sz e R w lo v ts) (ho : Only w.heap.size (some g) w w') (hg : g < lo) : Grow sz e R w' lo v ts :=
  h.keep K ho.size fun b h1 h2 => ho.block b h2 (fun e => by injection e with e; omega)
end Go.Proofs.YtopmbnnjhoinkaaGreat
