/-
  Sets of keepers' numbers: what a map's datum says when numbers from 0 to 3 are put into it.
  Conditions: none.
-/
import Derived.Test.YtphlnihmfgmecaaNP
import Derived.Maps.OwnSet
import Derived.WalkKit
namespace Go.Proofs.Ytphlnihmfgmecaa
open Go.RowKit Go.Maps
set_option linter.unusedVariables false
set_option linter.unusedSimpArgs false

def cnt4 (f : Int → Bool) : Nat := (if f 0 then 1 else 0) + (if f 1 then 1 else 0) + (if f 2 then 1 else 0) + (if f 3 then 1 else 0)
def key4 (k : Int) : Lit := .int .i64 k
/-- A map's datum is the set of the numbers from 0 to 3 that f says. -/
structure SetD (D : DataW Unit) (f : Int → Bool) : Prop where
  tidy : Tidy D
  mem : ∀ k, 0 ≤ k → k ≤ 3 → Maps.has D (key4 k) = f k
  size : Maps.size D = cnt4 f
theorem setD_none : SetD (.map []) (fun _ => false) := ⟨tidy_empty, fun _ _ _ => rfl, rfl⟩
theorem key4_is (k : Int) : WideAt.IsKeyLit (key4 k) := trivial
theorem key4_ne {a b : Int} (h : a ≠ b) : key4 a ≠ key4 b := fun e => by injection e with _ e; exact h e
theorem SetD.put {D : DataW Unit} {f g : Int → Bool} {k : Int} (h : SetD D f) (h0 : 0 ≤ k) (h3 : k ≤ 3) (d : DataW Unit) (hg : ∀ j, 0 ≤ j → j ≤ 3 → g j = (f j || decide (j = k))) : SetD (D.put (key4 k) d) g := by
  refine ⟨h.tidy.put (key4_is k) d, fun j j0 j3 => ?_, ?_⟩
  · by_cases e : j = k
    · subst e
      rw [has_put_same h.tidy.isMap (key4_is _), hg j j0 j3]; simp
    · rw [has_put_other (key4_ne e), h.mem j j0 j3, hg j j0 j3]; simp [e]
  · rw [size_put h.tidy, h.mem k h0 h3, h.size]
    unfold cnt4
    rw [hg 0 (by omega) (by omega), hg 1 (by omega) (by omega), hg 2 (by omega) (by omega), hg 3 (by omega) (by omega)]
    obtain rfl | rfl | rfl | rfl : k = 0 ∨ k = 1 ∨ k = 2 ∨ k = 3 := by omega
    all_goals
      cases f 0 <;> cases f 1 <;> cases f 2 <;> cases f 3 <;> simp
theorem SetD.congr {D : DataW Unit} {f g : Int → Bool} (h : SetD D f) (hg : ∀ j, 0 ≤ j → j ≤ 3 → g j = f j) : SetD D g :=
  ⟨h.tidy, fun k h0 h3 => by rw [h.mem k h0 h3, hg k h0 h3], by
    rw [h.size]; unfold cnt4
    rw [hg 0 (by omega) (by omega), hg 1 (by omega) (by omega), hg 2 (by omega) (by omega), hg 3 (by omega) (by omega)]⟩
/-- Who said something of a kind of a claim, but one. -/
def saidBy (ms : List MsgT) (kind : Int) (c : ClaimT) (but : Int) (k : Int) : Bool := decide (k ≠ but) && ms.any (saidOf kind c k)
theorem cnt4_count (ms : List MsgT) (kind : Int) (c : ClaimT) (but : Int) : cnt4 (saidBy ms kind c but) = countOf ms kind c but := by
  have e : List.range 4 = [0, 1, 2, 3] := rfl
  have key : ∀ (f : Nat → Bool), ([0, 1, 2, 3].filter f).length = (if f 0 then 1 else 0) + (if f 1 then 1 else 0) + (if f 2 then 1 else 0) + (if f 3 then 1 else 0) := by
    intro f
    simp only [List.filter_cons, List.filter_nil]
    cases f 0 <;> cases f 1 <;> cases f 2 <;> cases f 3 <;> rfl
  unfold countOf
  rw [e, key]
  rfl
theorem saidBy_take (ms : List MsgT) (kind : Int) (c : ClaimT) (but : Int) (j : Nat) (hj : j < ms.length) (k : Int) : saidBy (ms.take (j + 1)) kind c but k = (saidBy (ms.take j) kind c but k || (decide (k ≠ but) && saidOf kind c k ms[j])) := by
  unfold saidBy
  rw [List.take_succ_eq_append_getElem hj, List.any_append]
  simp [Bool.and_or_distrib_left]
end Go.Proofs.Ytphlnihmfgmecaa
