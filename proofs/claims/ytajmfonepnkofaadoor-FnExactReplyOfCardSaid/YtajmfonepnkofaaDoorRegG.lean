/-
  Regions whose guarded loads may come up late.
-/
import Derived.Test.YtajmfonepnkofaaDoorRegK
namespace Go.Proofs.YtajmfonepnkofaaDoor
open Go.RowKit Rg
set_option linter.unusedVariables false
set_option linter.unusedSimpArgs false

namespace Rg
theorem wpT_sw {P : Program} {ops : Array Oper} {S : World → Prop} {et sl : List Tmp} {QT : Act → World → Prop} {o : Oper} {rest : List Oper} {a : Act} {w : World} (v : Value) (he : isE et o = false) (hg : Region.wanted o (yielded ops a.tmps) = true) (hv : Gives P o a w v) (hs : ∀ w2, S w2 → Gives P o a w2 v)
    (h : wpT P ops S et sl QT rest (a.put o.dst v) w) : wpT P ops S et sl QT (o :: rest) a w := by
  unfold wpT opT
  rw [if_pos hg, if_neg (by simp [he])]
  exact ⟨v, hv, fun _ => hs, h⟩
/-- A guarded load that may come up behind an effect: its block stood when the region began. -/
theorem wpT_lw {P : Program} {ops : Array Oper} {et sl : List Tmp} {QT : Act → World → Prop} {o : Oper} {rest : List Oper} {a : Act} {w w0 : World} {t : TypeId} (x : Operand) (p : Addr) (hg : Region.wanted o (yielded ops a.tmps) = true) (ho : o.op = .load t x) (het : inT et o = false) (hx : a.eval x = .pointer (some p))
    (hS : Since w0 w) (hp : p.block < w0.heap.size) (hc : (w.cell? p).isSome = true)
    (h : ∀ K : Act → World → Prop, (∀ a', wpT P ops (Since w0) et sl QT rest a' w → K a' w) → o.wp P a w K Qf) : wpT P ops (Since w0) et sl QT (o :: rest) a w := by
  have h1 := h (fun a' w' => w' = w ∧ wpT P ops (Since w0) et sl QT rest a' w') (fun a' h => ⟨rfl, h⟩)
  have he : isE et o = false := by simp [isE, isEop, ho, het]
  obtain ⟨u, hc⟩ := Option.isSome_iff_exists.1 hc
  unfold Oper.wp at h1
  generalize hr : (execOp a.eval o).run P w = r at h1
  cases r with
  | ok n w' =>
    obtain ⟨v, rfl⟩ := exec_value he hr
    simp only [Oper.upon] at h1
    obtain ⟨rfl, h2⟩ := h1
    exact wpT_sw v he hg hr (gives_load ho hx hc hp hS hr) h2
  | halt y w' =>
    exfalso
    cases y <;> simp only [Oper.upon] at h1
    exact h1
end Rg
end Go.Proofs.YtajmfonepnkofaaDoor
