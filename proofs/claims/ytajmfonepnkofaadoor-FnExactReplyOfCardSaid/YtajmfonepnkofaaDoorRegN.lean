/-
  Regions whose checks for nil may come up late.
-/
import Derived.Test.YtajmfonepnkofaaDoorRegG
namespace Go.Proofs.YtajmfonepnkofaaDoor
open Go.RowKit Rg
set_option linter.unusedVariables false
set_option linter.unusedSimpArgs false

namespace Rg
theorem gives_nc {P : Program} {o : Oper} {a : Act} {x : Operand} {p : Addr} (ho : o.op = .nilCheck x) (hx : a.eval x = .pointer (some p)) (w : World) : Gives P o a w (.pointer (some p)) := by
  unfold Gives
  obtain ⟨dst, op', type, pos, after, guard⟩ := o
  simp only at ho
  subst ho
  simp [execOp, hx]
/-- A check of a pointer that is not nil. -/
def AtNil (et : List Tmp) (o : Oper) (a : Act) : Prop := ∃ x p, inT et o = false ∧ o.op = .nilCheck x ∧ a.eval x = .pointer (some p)
theorem wpT_ncw {P : Program} {ops : Array Oper} {S : World → Prop} {et sl : List Tmp} {QT : Act → World → Prop} {o : Oper} {rest : List Oper} {a : Act} {w : World} (hw : o.guard = none ∨ Region.wanted o (yielded ops a.tmps) = true) (h0 : AtNil et o a)
    (h : ∀ K : Act → World → Prop, (∀ a', wpT P ops S et sl QT rest a' w → K a' w) → o.wp P a w K Qf) : wpT P ops S et sl QT (o :: rest) a w := by
  obtain ⟨x, p, het, ho, hx⟩ := h0
  have hw' : Region.wanted o (yielded ops a.tmps) = true := by
    rcases hw with hg | hg
    · simp [Region.wanted, hg]
    · exact hg
  have h1 := h (fun a' w' => w' = w ∧ wpT P ops S et sl QT rest a' w') (fun a' h => ⟨rfl, h⟩)
  have he : isE et o = false := by simp [isE, isEop, ho, het]
  have hr : (execOp a.eval o).run P w = .ok (.value (.pointer (some p))) w := gives_nc ho hx w
  unfold Oper.wp at h1
  rw [hr] at h1
  simp only [Oper.upon] at h1
  exact wpT_sw _ he hw' hr (fun w2 _ => gives_nc ho hx w2) h1.2
end Rg
end Go.Proofs.YtajmfonepnkofaaDoor
