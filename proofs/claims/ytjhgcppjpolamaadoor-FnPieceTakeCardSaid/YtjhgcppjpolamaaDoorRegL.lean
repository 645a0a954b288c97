/-
  Regions in which the length of a slice may be asked behind an effect.
-/
import Derived.Test.YtjhgcppjpolamaaDoorReg
import Derived.Test.YtjhgcppjpolamaaDoorRegI
import Derived.Test.YtjhgcppjpolamaaDoorRegA
namespace Go.Proofs.YtjhgcppjpolamaaDoor.Rg
open Go Go.RowKit
set_option linter.unusedVariables false
set_option linter.unusedSimpArgs false
theorem gives_len {P : Program} {o : Oper} {a : Act} {w : World} {v : Value} {x : Operand} {t e : TypeId} {A : Option Addr} {n c : Nat} (ho : o.op = .call { callee := .builtin .len, args := #[x], argTypes := #[t] }) (hx : a.eval x = .slice A n c) (ht : P.underlying t = some (.slice e)) (hg : Gives P o a w v) :
    ∀ w2, Gives P o a w2 v := by
  intro w2
  unfold Gives at *
  obtain ⟨dst, op', type, pos, after, guard⟩ := o
  simp only at ho
  subst ho
  simp [execOp, resolve, invoke, builtin, Builtin.len_, hx, run_underlying ht] at hg ⊢
  exact hg
/-- The length of a slice. -/
def AtLen (P : Program) (et : List Tmp) (ops : Array Oper) (o : Oper) (a : Act) : Prop := ∃ x t e A n c, inT et o = false ∧ isE et o = false ∧ o.op = .call { callee := .builtin .len, args := #[x], argTypes := #[t] } ∧ a.eval x = .slice A n c ∧ P.underlying t = some (.slice e)
theorem wpT_len {P : Program} {ops : Array Oper} {S : World → Prop} {et sl : List Tmp} {QT : Act → World → Prop} {o : Oper} {rest : List Oper} {a : Act} {w : World} {x : Operand} {t e : TypeId} {A : Option Addr} {n c : Nat} (hg : o.guard = none ∨ Region.wanted o (yielded ops a.tmps) = true) (he : isE et o = false)
    (ho : o.op = .call { callee := .builtin .len, args := #[x], argTypes := #[t] }) (hx : a.eval x = .slice A n c) (ht : P.underlying t = some (.slice e))
    (h : wpT P ops S et sl QT rest (a.put o.dst (.int .i64 n)) w) : wpT P ops S et sl QT (o :: rest) a w := by
  have hr : Gives P o a w (.int .i64 n) := by
    unfold Gives
    obtain ⟨dst, op', type, pos, after, guard⟩ := o
    simp only at ho
    subst ho
    simp [execOp, resolve, invoke, builtin, Builtin.len_, hx, run_underlying ht, goInt]
  unfold wpT opT
  have hw : Region.wanted o (yielded ops a.tmps) = true := by
    rcases hg with hg | hg
    · simp [Region.wanted, hg]
    · exact hg
  rw [if_pos hw, if_neg (by simp [he])]
  exact ⟨_, hr, fun _ => fun w2 _ => gives_len ho hx ht hr w2, h⟩
theorem wpT_sw {P : Program} {ops : Array Oper} {S : World → Prop} {et sl : List Tmp} {QT : Act → World → Prop} {o : Oper} {rest : List Oper} {a : Act} {w : World} (v : Value) (he : isE et o = false) (hw : Region.wanted o (yielded ops a.tmps) = true) (hv : Gives P o a w v) (hs : ∀ w2, S w2 → Gives P o a w2 v)
    (h : wpT P ops S et sl QT rest (a.put o.dst v) w) : wpT P ops S et sl QT (o :: rest) a w := by
  unfold wpT opT
  rw [if_pos hw, if_neg (by simp [he])]
  exact ⟨v, hv, fun _ => hs, h⟩
/-- A place of a slice that may be found behind an effect (a guarded operation). -/
def AtIdxW (et : List Tmp) (o : Oper) (a : Act) : Prop := ∃ t x ix A n c k i, inT et o = false ∧ o.op = .indexAddr t x ix ∧ a.eval x = .slice (some A) n c ∧ a.eval ix = .int k i ∧ (0 ≤ i ∧ i < (n : Int))
theorem wpT_iw {P : Program} {ops : Array Oper} {S : World → Prop} {et sl : List Tmp} {QT : Act → World → Prop} {o : Oper} {rest : List Oper} {a : Act} {w : World} (hw : Region.wanted o (yielded ops a.tmps) = true) (h0 : AtIdxW et o a)
    (h : ∀ K : Act → World → Prop, (∀ a', wpT P ops S et sl QT rest a' w → K a' w) → o.wp P a w K Qf) : wpT P ops S et sl QT (o :: rest) a w := by
  obtain ⟨t, x, ix, A, n, c, k, i, het, ho, hx, hi, hb⟩ := h0
  have h1 := h (fun a' w' => w' = w ∧ wpT P ops S et sl QT rest a' w') (fun a' h => ⟨rfl, h⟩)
  have he : isE et o = false := by simp [isE, isEop, ho, het]
  unfold Oper.wp at h1
  generalize hr : (execOp a.eval o).run P w = r at h1
  cases r with
  | ok n w' =>
    obtain ⟨v, rfl⟩ := exec_value he hr
    simp only [Oper.upon] at h1
    obtain ⟨rfl, h2⟩ := h1
    exact wpT_sw v he hw hr (fun w2 _ => gives_idx ho hx hi hb hr w2) h2
  | halt y w' =>
    exfalso
    cases y <;> simp only [Oper.upon] at h1
    exact h1
end Go.Proofs.YtjhgcppjpolamaaDoor.Rg
