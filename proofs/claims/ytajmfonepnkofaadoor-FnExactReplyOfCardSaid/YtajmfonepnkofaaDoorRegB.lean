/-
  Regions whose loads may come up late, where only blocks from K on are written ('SinceB'). (Printed by gen_regb.py.)
  Conditions: none.
-/
import Derived.Test.YtajmfonepnkofaaDoorRegG
import Derived.Test.YtajmfonepnkofaaDoorGA
namespace Go.Proofs.YtajmfonepnkofaaDoor.Rg
open Go Go.RowKit
set_option linter.unusedVariables false
set_option linter.unusedSimpArgs false

/-- 'w2' has all blocks below K as 'w0' had them, and perhaps more. -/
structure SinceB (K : Nat) (w0 w2 : World) : Prop where
  size : w0.heap.size ≤ w2.heap.size
  block : ∀ b, b < K → w2.heap[b]? = w0.heap[b]?
section
variable {K K' : Nat} {w0 w w' : World}
theorem SinceB.refl (K : Nat) (w : World) : SinceB K w w := ⟨Nat.le_refl _, fun _ _ => rfl⟩
theorem SinceB.drew (K : Nat) (w : World) : SinceB K w w.drew := ⟨Nat.le_refl _, fun _ _ => rfl⟩
theorem SinceB.drewR (h : SinceB K w0 w) : SinceB K w0 w.drew := ⟨h.size, h.block⟩
theorem SinceB.below (h : SinceB K w0 w) (hb : Below K' w w') (hK : K ≤ K') : SinceB K w0 w' :=
  ⟨Nat.le_trans h.size hb.size, fun b hb' => (hb.block b (Nat.lt_of_lt_of_le hb' hK)).trans (h.block b hb')⟩
theorem SinceB.only {g : Option Nat} (h : SinceB K w0 w) (hb : Only K' g w w') (hK : K ≤ K') (hg : ∀ k, g = some k → K ≤ k) : SinceB K w0 w' :=
  ⟨Nat.le_trans h.size hb.size, fun b hb' => (hb.block b (Nat.lt_of_lt_of_le hb' hK) (fun e => by have := hg b e; omega)).trans (h.block b hb')⟩
theorem SinceB.alloc (h : SinceB K w0 w) (hK : K ≤ w.heap.size) (o : Obj) : SinceB K w0 (w.alloc o) := h.below ((Below.refl w.heap.size w).alloc (Nat.le_refl _) o) hK
theorem SinceB.set (h : SinceB K w0 w) {p : Addr} (hp : K ≤ p.block) (u : Value) : SinceB K w0 (w.setCell p u) := h.below ((Below.refl K w).setCell hp u) (Nat.le_refl _)
theorem SinceB.and_ {R : Prop} (h : SinceB K w0 w) (k : SinceB K w0 w → R) : SinceB K w0 w ∧ R := ⟨h, k h⟩
end
theorem gives_loadB {P : Program} {o : Oper} {a : Act} {w w0 : World} {K0 : Nat} {p : Addr} {u v : Value} {t : TypeId} {x : Operand} (ho : o.op = .load t x) (hx : a.eval x = .pointer (some p)) (hc : w.cell? p = some u) (hp : p.block < K0) (hS : SinceB K0 w0 w) (hg : Gives P o a w v) :
    ∀ w2, SinceB K0 w0 w2 → Gives P o a w2 v := by
  intro w2 h2
  obtain ⟨cs, e, fz, hh⟩ : ∃ cs e fz, w.heap[p.block]? = some (.cells cs e fz) := by
    unfold World.cell? at hc
    split at hc
    · rename_i cs e fz hh; exact ⟨cs, e, fz, hh⟩
    · cases hc
  have hh2 : w2.heap[p.block]? = some (.cells cs e fz) := (h2.block _ hp).trans ((hS.block _ hp).symm.trans hh)
  unfold Gives at *
  obtain ⟨dst, op, type, pos, after, guard⟩ := o
  simp only at ho
  subst ho
  simp only [execOp, hx, Instr.loadAt, Instr.sureAddr, Sem.run_bind, Sem.run_pure, Result.andThen_ok, loadVar] at hg ⊢
  cases hi : (isAgg t).run P w with
  | halt x w1 => rw [hi] at hg; simp at hg
  | ok b w1 =>
    obtain ⟨rfl, hi2⟩ := free_isAgg P t w w2 b w1 hi
    rw [hi] at hg
    rw [hi2]
    simp only [Result.andThen_ok] at hg ⊢
    cases b
    · simp only [Bool.false_eq_true, if_false] at hg ⊢
      cases hl : (load p).run P w1 with
      | halt x w3 => rw [hl] at hg; simp at hg
      | ok u' w3 =>
        rw [hl] at hg
        simp only [Result.andThen_ok, Result.ok.injEq, Next.value.injEq] at hg
        obtain ⟨rfl, rfl⟩ := hg
        rw [run_load_since hh hh2 rfl hl]
        rfl
    · simp only [if_true, Sem.run_bind, Sem.run_pure] at hg ⊢
      cases hs : (sizeOf t).run P w1 with
      | halt x w3 => rw [hs] at hg; simp at hg
      | ok n w3 =>
        obtain ⟨rfl, hs2⟩ := free_sizeOf P t w1 w2 n w3 hs
        rw [hs] at hg
        rw [hs2]
        simp only [Result.andThen_ok, loadCells] at hg ⊢
        cases hl : (loadCellsFrom p 0 n #[]).run P w3 with
        | halt x w4 => rw [hl] at hg; simp at hg
        | ok r w4 =>
          rw [hl] at hg
          simp only [Result.andThen_ok, Result.ok.injEq, Next.value.injEq] at hg
          obtain ⟨rfl, rfl⟩ := hg
          rw [run_loadCells_since hh hh2 n 0 #[] r hl]
          rfl
/-- A load that may come up behind an effect: its block stood when the region began. -/
theorem wpT_lB {P : Program} {ops : Array Oper} {et sl : List Tmp} {QT : Act → World → Prop} {o : Oper} {rest : List Oper} {a : Act} {w w0 : World} {K0 : Nat} {t : TypeId} (x : Operand) (p : Addr) (hg : o.guard = none) (ho : o.op = .load t x) (het : inT et o = false) (hx : a.eval x = .pointer (some p))
    (hS : SinceB K0 w0 w) (hp : p.block < K0) (hc : (w.cell? p).isSome = true)
    (h : ∀ K : Act → World → Prop, (∀ a', wpT P ops (SinceB K0 w0) et sl QT rest a' w → K a' w) → o.wp P a w K Qf) : wpT P ops (SinceB K0 w0) et sl QT (o :: rest) a w := by
  have h1 := h (fun a' w' => w' = w ∧ wpT P ops (SinceB K0 w0) et sl QT rest a' w') (fun a' h => ⟨rfl, h⟩)
  have he : isE et o = false := by simp [isE, isEop, ho, het]
  obtain ⟨u, hc⟩ := Option.isSome_iff_exists.1 hc
  unfold Oper.wp at h1
  generalize hr : (execOp a.eval o).run P w = r at h1
  cases r with
  | ok n w' =>
    obtain ⟨v, rfl⟩ := exec_value he hr
    simp only [Oper.upon] at h1
    obtain ⟨rfl, h2⟩ := h1
    exact wpT_s v he hg hr (gives_loadB ho hx hc hp hS hr) h2
  | halt y w' =>
    exfalso
    cases y <;> simp only [Oper.upon] at h1
    exact h1
theorem wpT_lwB {P : Program} {ops : Array Oper} {et sl : List Tmp} {QT : Act → World → Prop} {o : Oper} {rest : List Oper} {a : Act} {w w0 : World} {K0 : Nat} {t : TypeId} (x : Operand) (p : Addr) (hg : Region.wanted o (yielded ops a.tmps) = true) (ho : o.op = .load t x) (het : inT et o = false) (hx : a.eval x = .pointer (some p))
    (hS : SinceB K0 w0 w) (hp : p.block < K0) (hc : (w.cell? p).isSome = true)
    (h : ∀ K : Act → World → Prop, (∀ a', wpT P ops (SinceB K0 w0) et sl QT rest a' w → K a' w) → o.wp P a w K Qf) : wpT P ops (SinceB K0 w0) et sl QT (o :: rest) a w := by
  have h1 := h (fun a' w' => w' = w ∧ wpT P ops (SinceB K0 w0) et sl QT rest a' w') (fun a' h => ⟨rfl, h⟩)
  have he : isE et o = false := by simp [isE, isEop, ho, het]
  obtain ⟨u, hc⟩ := Option.isSome_iff_exists.1 hc
  unfold Oper.wp at h1
  generalize hr : (execOp a.eval o).run P w = r at h1
  cases r with
  | ok n w' =>
    obtain ⟨v, rfl⟩ := exec_value he hr
    simp only [Oper.upon] at h1
    obtain ⟨rfl, h2⟩ := h1
    exact wpT_sw v he hg hr (gives_loadB ho hx hc hp hS hr) h2
  | halt y w' =>
    exfalso
    cases y <;> simp only [Oper.upon] at h1
    exact h1

end Go.Proofs.YtajmfonepnkofaaDoor.Rg
