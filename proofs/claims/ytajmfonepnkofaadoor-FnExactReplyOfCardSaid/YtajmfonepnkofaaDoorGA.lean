/-
  Words and leaf functions that the players' laws need.
-/
import Derived.Test.YtajmfonepnkofaaDoorRows
import Derived.Test.YtajmfonepnkofaaDoorReg
import Derived.Test.YtajmfonepnkofaaDoorBase
import Derived.OpenShut
import Derived.BigQuiet
import Derived.Deep.QuietTactic
namespace Go.Proofs.YtajmfonepnkofaaDoor
open Go.RowKit Rg
set_option linter.unusedVariables false
set_option linter.unusedSimpArgs false

theorem hide {p : Prop} (h : p) : Hid p := h
def inB (n lo hi : Int) : Bool := decide (lo ≤ n ∧ n ≤ hi)
theorem in_c (n lo hi : Int) (w : World) : Calls Tryd.prog 54 #[.int .i64 n, .int .i64 lo, .int .i64 hi] w fun e w' => e = .returned (.bool (inB n lo hi)) ∧ w = w' := by
  by_cases h1 : lo ≤ n
  · by_cases h2 : n ≤ hi
    · go_enter Tryd.func54, Tryd.ntmps54
      go_wp2
      go_ret
      exact ⟨by simp [inB, h1, h2], rfl⟩
    · go_enter Tryd.func54, Tryd.ntmps54
      go_wp2
      go_ret
      exact ⟨by simp [inB, h2], rfl⟩
  · go_enter Tryd.func54, Tryd.ntmps54
    go_wp2
    go_ret
    exact ⟨by simp [inB]; omega, rfl⟩
theorem l1In_c (n lo hi : Int) (w : World) : Calls Tryd.prog 20 #[.int .i64 n, .int .i64 lo, .int .i64 hi] w fun e w' => e = .returned (.bool (inB n lo hi)) ∧ w = w' := by
  by_cases h1 : lo ≤ n
  · by_cases h2 : n ≤ hi
    · go_enter Tryd.func20, Tryd.ntmps20
      go_wp2
      go_ret
      exact ⟨by simp [inB, h1, h2], rfl⟩
    · go_enter Tryd.func20, Tryd.ntmps20
      go_wp2
      go_ret
      exact ⟨by simp [inB, h2], rfl⟩
  · go_enter Tryd.func20, Tryd.ntmps20
    go_wp2
    go_ret
    exact ⟨by simp [inB]; omega, rfl⟩

theorem take_set_replicate {α : Type} (xs : List α) (z : α) (k n : Nat) (hn : n = xs.length) (hk : k < n) : (xs.take k ++ List.replicate (n - k) z).set k (xs[k]'(by omega)) = xs.take (k + 1) ++ List.replicate (n - (k + 1)) z := by
  subst hn
  have h1 : (xs.take k).length = k := by simp; omega
  rw [List.set_append_right _ _ (by omega), h1, Nat.sub_self, show xs.length - k = (xs.length - (k + 1)) + 1 by omega, List.replicate_succ, List.set_cons_zero,
    List.take_succ_eq_append_getElem hk, List.append_assoc]
  rfl
theorem take_eq_succ {α : Type} (xs ys : List α) (k : Nat) (hx : k < xs.length) (hy : k < ys.length) (h : xs.take k = ys.take k) (he : xs[k] = ys[k]) : xs.take (k + 1) = ys.take (k + 1) := by
  rw [List.take_succ_eq_append_getElem hx, List.take_succ_eq_append_getElem hy, h, he]

theorem own_empty {α : Type} (enc : α → List Value) (sz : Nat) (e : TypeId) (w : World) : Own enc sz e (w.alloc (.cells #[] e)) w.heap.size (.slice (some ⟨w.heap.size, 0, none⟩) 0 0) [] :=
  Own.of_row (xs := []) (cur := #[]) (Nat.le_refl _) (heap_alloc_new w _) (by simp) (by simp [maxLen]) (by simp) (by simp)

/-- Nothing below B is written but block g. -/
structure Only (B : Nat) (g : Option Nat) (w w' : World) : Prop where
  os : w'.os = w.os
  tape : w'.tape = w.tape
  output : w'.output = w.output
  size : w.heap.size ≤ w'.heap.size
  block : ∀ k, k < B → g ≠ some k → w'.heap[k]? = w.heap[k]?

section
variable {B B' : Nat} {g : Option Nat} {a w w' : World}
theorem Only.refl (B : Nat) (g : Option Nat) (w : World) : Only B g w w := ⟨rfl, rfl, rfl, Nat.le_refl _, fun _ _ _ => rfl⟩
theorem Only.trans (h : Only B g a w) (k : Only B g w w') : Only B g a w' := ⟨k.os.trans h.os, k.tape.trans h.tape, k.output.trans h.output, Nat.le_trans h.size k.size, fun j hj hne => (k.block j hj hne).trans (h.block j hj hne)⟩
theorem Only.of_below (h : Below B w w') : Only B g w w' := ⟨h.os, h.tape, h.output, h.size, fun k hk _ => h.block k hk⟩
theorem Only.mono (h : Only B g w w') (hB : B' ≤ B) : Only B' g w w' := ⟨h.os, h.tape, h.output, h.size, fun k hk => h.block k (by omega)⟩
theorem Only.of_grown (h : w.grownBy w' g) : Only w.heap.size g w w' := ⟨h.os, h.tape, h.output, h.size, fun k hk hne => h.block k hk (fun e => hne e.symm)⟩
theorem Only.toBelow (h : Only B g w w') (hB : B' ≤ B) (hg : ∀ k, g = some k → B' ≤ k) : Below B' w w' := ⟨h.os, h.tape, h.output, h.size, fun k hk => h.block k (by omega) (fun e => by have := hg k e; omega)⟩
theorem Only.put {g : Nat} (us : List Value) : ∀ {w : World} {j : Nat}, Only B (some g) a w → Only B (some g) a (putCells w g j us) := by
  induction us with
  | nil => intro w j h; exact h
  | cons u us ih =>
    intro w j h
    exact ih (h.trans ⟨rfl, rfl, rfl, by simp [World.setCell], fun k _ hne => Below.heap_setCell w ⟨g, j, none⟩ u k (fun e => hne (by rw [e]))⟩)
theorem Only.alloc (h : Only B g a w) (hB : B ≤ w.heap.size) (o : Obj) : Only B g a (w.alloc o) := h.trans (Only.of_below ((Below.refl B w).alloc hB o))
theorem Only.allocs {a w : World} {g : Option Nat} (h : Only a.heap.size g a w) (o : Obj) : Only a.heap.size g a (w.alloc o) := h.alloc h.size o
theorem Only.drew (h : Only B g a w) : Only B g a w.drew := ⟨h.os, h.tape, h.output, h.size, h.block⟩
theorem Own.only {α : Type} {enc : α → List Value} {sz lo : Nat} {e : TypeId} {v : Value} {xs : List α} (h : Own enc sz e w lo v xs) (ho : Only B g w w') (hB : w.heap.size ≤ B) (hne : ∀ k, v.ownBlock = some k → g ≠ some k) : Own enc sz e w' lo v xs :=
  h.keep fun b hb => ho.block b (by have := (h.lt b hb).2; omega) (hne b hb)
end

theorem Only.keepc {g : Option Nat} {w w' : World} (h : Only w.heap.size g w w') {p : Addr} {v : Value} (hne : g ≠ some p.block) (hc : w.cell? p = some v) : w'.cell? p = some v :=
  (World.cell?_of_block (h.block p.block (lt_of_cell hc) hne)).trans hc

abbrev ReqV := Int × Int × Int × Int × Int
/-- Whether an ask is ok. -/
def okR (t : ReqV) : Bool := inB t.1 1 4 && (inB t.2.1 1 30 && (if t.2.2.1 = 1 ∨ t.2.2.1 = 3 then (t.2.2.2.1 == 0 && t.2.2.2.2 == 0) else if t.2.2.1 = 2 then inB t.2.2.2.1 (-1) 1 && inB t.2.2.2.2 (-1) 1 else if t.2.2.1 = 4 then inB t.2.2.2.1 1 4 && (t.2.2.2.2 == 0) else if t.2.2.1 = 5 then inB t.2.2.2.1 1 4 && inB t.2.2.2.2 1 9 else false))
theorem isClient_c (n : Int) (w : World) : Calls Tryd.prog 58 #[.int .i64 n] w fun e w' => e = .returned (.bool (inB n 1 4)) ∧ w = w' := by
  go_enter Tryd.func58, Tryd.ntmps58
  go_wp2_with (go_at_call 54; refine (in_c _ _ _ _).mono ?_; rintro e w' ⟨rfl, rfl⟩)
  go_ret
  exact ⟨rfl, rfl⟩
theorem isKeeper_c (n : Int) (w : World) : Calls Tryd.prog 29 #[.int .i64 n] w fun e w' => e = .returned (.bool (inB n 0 3)) ∧ w = w' := by
  go_enter Tryd.func29, Tryd.ntmps29
  go_wp2_with (go_at_call 54; refine (in_c _ _ _ _).mono ?_; rintro e w' ⟨rfl, rfl⟩)
  go_ret
  exact ⟨rfl, rfl⟩
end Go.Proofs.YtajmfonepnkofaaDoor
