/-
  More of the region law: places of slices that are found behind an effect.
-/
import Derived.Test.YtajmfonepnkofaaDoorReg
namespace Go.Proofs.YtajmfonepnkofaaDoor.Rg
open Go Go.RowKit
set_option linter.unusedVariables false
set_option linter.unusedSimpArgs false

theorem gives_idx {P : Program} {o : Oper} {a : Act} {w : World} {v : Value} {t : TypeId} {x ix : Operand} {A : Addr} {n c : Nat} {k : IntKind} {i : Int} (ho : o.op = .indexAddr t x ix) (hx : a.eval x = .slice (some A) n c) (hi : a.eval ix = .int k i) (hb : 0 ≤ i ∧ i < (n : Int)) (hg : Gives P o a w v) :
    ∀ w2, Gives P o a w2 v := by
  intro w2
  unfold Gives at *
  obtain ⟨dst, op', type, pos, after, guard⟩ := o
  simp only at ho
  subst ho
  simp only [execOp, hx, hi, Instr.indexAt, asIntOf, Sem.run_bind, Sem.run_pure, Result.andThen_ok] at hg ⊢
  cases hu : (underlying t).run P w with
  | halt y w1 => rw [hu] at hg; simp at hg
  | ok d w1 =>
    obtain ⟨rfl, h2⟩ := free_underlying P t w w2 d w1 hu
    rw [hu] at hg
    rw [h2]
    simp only [Result.andThen_ok] at hg ⊢
    cases d
    case slice e =>
      simp only [hu, h2, Sem.run_bind, Sem.run_pure, Result.andThen_ok, hb, if_true, and_self] at hg ⊢
      cases hs : (sizeOf e).run P w1 with
      | halt y w3 => rw [hs] at hg; simp at hg
      | ok m w3 =>
        obtain ⟨rfl, hs2⟩ := free_sizeOf P e w1 w2 m w3 hs
        rw [hs] at hg
        rw [hs2]
        simp only [Result.andThen_ok, Result.ok.injEq, Next.value.injEq] at hg ⊢
        exact ⟨hg.1, trivial⟩
    all_goals (simp [Instr.sureAddr] at hg)
/-- A place of a slice that may be found behind an effect. -/
def AtIdx (et : List Tmp) (o : Oper) (a : Act) : Prop := ∃ t x ix A n c k i, o.guard = none ∧ inT et o = false ∧ o.op = .indexAddr t x ix ∧ a.eval x = .slice (some A) n c ∧ a.eval ix = .int k i ∧ (0 ≤ i ∧ i < (n : Int))
theorem wpT_i {P : Program} {ops : Array Oper} {S : World → Prop} {et sl : List Tmp} {QT : Act → World → Prop} {o : Oper} {rest : List Oper} {a : Act} {w : World} (h0 : AtIdx et o a)
    (h : ∀ K : Act → World → Prop, (∀ a', wpT P ops S et sl QT rest a' w → K a' w) → o.wp P a w K Qf) : wpT P ops S et sl QT (o :: rest) a w := by
  obtain ⟨t, x, ix, A, n, c, k, i, hg, het, ho, hx, hi, hb⟩ := h0
  have h1 := h (fun a' w' => w' = w ∧ wpT P ops S et sl QT rest a' w') (fun a' h => ⟨rfl, h⟩)
  have he : isE et o = false := by simp [isE, isEop, ho, het]
  unfold Oper.wp at h1
  generalize hr : (execOp a.eval o).run P w = r at h1
  cases r with
  | ok n w' =>
    obtain ⟨v, rfl⟩ := exec_value he hr
    simp only [Oper.upon] at h1
    obtain ⟨rfl, h2⟩ := h1
    exact wpT_s v he hg hr (fun w2 _ => gives_idx ho hx hi hb hr w2) h2
  | halt y w' =>
    exfalso
    cases y <;> simp only [Oper.upon] at h1
    exact h1
end Go.Proofs.YtajmfonepnkofaaDoor.Rg
