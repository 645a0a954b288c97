/-
  A region walked in one order: texts put together that may come up behind an effect.
  Conditions: the sum of both lengths is not too great (the walk shows it).
-/
import Derived.Test.YtajmfonepnkofaaDoorReg
namespace Go.Proofs.YtajmfonepnkofaaDoor.Rg
open Go Go.RowKit
set_option linter.unusedVariables false
set_option linter.unusedSimpArgs false

theorem gives_str {P : Program} {o : Oper} {a : Act} {w : World} {v : Value} {t r : TypeId} {x y : Operand} {s u : ByteArray} (ho : o.op = .binOp .add t x y r) (hx : a.eval x = .string s) (hy : a.eval y = .string u) (hg : Gives P o a w v) :
    ∀ w2, Gives P o a w2 v := by
  intro w2
  unfold Gives at *
  obtain ⟨dst, op', type, pos, after, guard⟩ := o
  simp only at ho
  subst ho
  simp [execOp, hx, hy, binOp, eqGuard, Op.stringOp] at hg ⊢
  all_goals (split at hg <;> simp_all)
/-- Two texts put together. -/
def AtStr (et : List Tmp) (o : Oper) (a : Act) : Prop := ∃ t x y r s u, o.guard = none ∧ inT et o = false ∧ o.op = .binOp .add t x y r ∧ a.eval x = .string s ∧ a.eval y = .string u
theorem wpT_bs {P : Program} {ops : Array Oper} {S : World → Prop} {et sl : List Tmp} {QT : Act → World → Prop} {o : Oper} {rest : List Oper} {a : Act} {w : World} (h0 : AtStr et o a)
    (h : ∀ K : Act → World → Prop, (∀ a', wpT P ops S et sl QT rest a' w → K a' w) → o.wp P a w K Qf) : wpT P ops S et sl QT (o :: rest) a w := by
  obtain ⟨t, x, y, r, s, u, hg, het, ho, hx, hy⟩ := h0
  have h1 := h (fun a' w' => w' = w ∧ wpT P ops S et sl QT rest a' w') (fun a' h => ⟨rfl, h⟩)
  have he : isE et o = false := by simp [isE, isEop, ho, het]
  unfold Oper.wp at h1
  generalize hr : (execOp a.eval o).run P w = r at h1
  cases r with
  | ok n w' =>
    obtain ⟨v, rfl⟩ := exec_value he hr
    simp only [Oper.upon] at h1
    obtain ⟨rfl, h2⟩ := h1
    exact wpT_s v he hg hr (fun w2 _ => gives_str ho hx hy hr w2) h2
  | halt y w' =>
    exfalso
    cases y <;> simp only [Oper.upon] at h1
    exact h1
end Go.Proofs.YtajmfonepnkofaaDoor.Rg
