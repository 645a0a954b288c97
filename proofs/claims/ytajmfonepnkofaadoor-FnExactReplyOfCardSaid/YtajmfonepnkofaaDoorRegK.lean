/-
  Regions whose loads of one block may come up late (condition 'Stays').
-/
import Derived.Test.YtajmfonepnkofaaDoorReg
namespace Go.Proofs.YtajmfonepnkofaaDoor
open Go.RowKit Rg
set_option linter.unusedVariables false
set_option linter.unusedSimpArgs false

namespace Rg
/-- Block b is as it was: kept behind the effects of a region whose loads of that block may come up late. -/
structure Stays (b : Nat) (o : Option Obj) (w2 : World) : Prop where
  heap : w2.heap[b]? = o
theorem Stays.drew {b : Nat} {o : Option Obj} {w : World} (h : Stays b o w) : Stays b o w.drew := ⟨h.heap⟩
theorem Stays.cell {b : Nat} {o : Option Obj} {w : World} (h : Stays b o w) {p : Addr} {u : Value} (hne : b ≠ p.block) : Stays b o (w.setCell p u) := ⟨(Below.heap_setCell w p u b hne).trans h.heap⟩
theorem Stays.and_ {b : Nat} {o : Option Obj} {w : World} {R : Prop} (h : Stays b o w) (k : Stays b o w → R) : Stays b o w ∧ R := ⟨h, k h⟩
theorem gives_load_at {P : Program} {o : Oper} {a : Act} {w w2 : World} {p : Addr} {v : Value} {t : TypeId} {x : Operand} {cs : Array Value} {e : TypeId} {fz : Nat × Nat} (ho : o.op = .load t x) (hx : a.eval x = .pointer (some p)) (hh : w.heap[p.block]? = some (.cells cs e fz)) (hh2 : w2.heap[p.block]? = some (.cells cs e fz)) (hg : Gives P o a w v) :
    Gives P o a w2 v := by
  unfold Gives at *
  obtain ⟨dst, op, type, pos, after, guard⟩ := o
  simp only at ho
  subst ho
  simp only [execOp, hx, Instr.loadAt, Instr.sureAddr, Sem.run_bind, Sem.run_pure, Result.andThen_ok, loadVar] at hg ⊢
  cases hi : (isAgg t).run P w with
  | halt x w1 => rw [hi] at hg; simp at hg
  | ok b w1 =>
    obtain ⟨rfl, hi2⟩ := free_isAgg P t w w2 b w1 hi
    rw [hi] at hg
    rw [hi2]
    simp only [Result.andThen_ok] at hg ⊢
    cases b
    · simp only [Bool.false_eq_true, if_false] at hg ⊢
      cases hl : (load p).run P w1 with
      | halt x w3 => rw [hl] at hg; simp at hg
      | ok u' w3 =>
        rw [hl] at hg
        simp only [Result.andThen_ok, Result.ok.injEq, Next.value.injEq] at hg
        obtain ⟨rfl, rfl⟩ := hg
        rw [run_load_since hh hh2 rfl hl]
        rfl
    · simp only [if_true, Sem.run_bind, Sem.run_pure] at hg ⊢
      cases hs : (sizeOf t).run P w1 with
      | halt x w3 => rw [hs] at hg; simp at hg
      | ok n w3 =>
        obtain ⟨rfl, hs2⟩ := free_sizeOf P t w1 w2 n w3 hs
        rw [hs] at hg
        rw [hs2]
        simp only [Result.andThen_ok, loadCells] at hg ⊢
        cases hl : (loadCellsFrom p 0 n #[]).run P w3 with
        | halt x w4 => rw [hl] at hg; simp at hg
        | ok r w4 =>
          rw [hl] at hg
          simp only [Result.andThen_ok, Result.ok.injEq, Next.value.injEq] at hg
          obtain ⟨rfl, rfl⟩ := hg
          rw [run_loadCells_since hh hh2 n 0 #[] r hl]
          rfl
theorem wpT_k {P : Program} {ops : Array Oper} {et sl : List Tmp} {QT : Act → World → Prop} {o : Oper} {rest : List Oper} {a : Act} {w : World} {b : Nat} {ob : Option Obj} {t : TypeId} (x : Operand) (p : Addr) (hg : o.guard = none) (ho : o.op = .load t x) (het : inT et o = false) (hx : a.eval x = .pointer (some p))
    (hS : Stays b ob w) (hp : p.block = b) (hc : (w.cell? p).isSome = true)
    (h : ∀ K : Act → World → Prop, (∀ a', wpT P ops (Stays b ob) et sl QT rest a' w → K a' w) → o.wp P a w K Qf) : wpT P ops (Stays b ob) et sl QT (o :: rest) a w := by
  have h1 := h (fun a' w' => w' = w ∧ wpT P ops (Stays b ob) et sl QT rest a' w') (fun a' h => ⟨rfl, h⟩)
  have he : isE et o = false := by simp [isE, isEop, ho, het]
  obtain ⟨u, hc⟩ := Option.isSome_iff_exists.1 hc
  unfold Oper.wp at h1
  generalize hr : (execOp a.eval o).run P w = r at h1
  cases r with
  | ok n w' =>
    obtain ⟨v, rfl⟩ := exec_value he hr
    simp only [Oper.upon] at h1
    obtain ⟨rfl, h2⟩ := h1
    refine wpT_s v he hg hr (fun w2 h3 => ?_) h2
    have hb : w2.heap[p.block]? = w'.heap[p.block]? := by rw [hp, h3.heap, hS.heap]
    obtain ⟨cs, e, fz, hh⟩ : ∃ cs e fz, w'.heap[p.block]? = some (.cells cs e fz) := by
      unfold World.cell? at hc
      split at hc
      · rename_i cs e fz hh; exact ⟨cs, e, fz, hh⟩
      · cases hc
    exact gives_load_at ho hx hh (hb.trans hh) hr
  | halt y w' =>
    exfalso
    cases y <;> simp only [Oper.upon] at h1
    exact h1
end Rg
end Go.Proofs.YtajmfonepnkofaaDoor
