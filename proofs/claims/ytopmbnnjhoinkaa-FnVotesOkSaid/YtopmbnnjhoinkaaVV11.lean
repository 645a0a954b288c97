/-
  What 'FVd' rests on (texts of this seat put together: RegK RegA RegI NZv).
  Conditions: none.
-/
import Derived.Test.YtopmbnnjhoinkaaVV1
namespace Go.Proofs.Ytopmbnnjhoinkaa
open Go.RowKit Rg
set_option linter.unusedVariables false
set_option linter.unusedSimpArgs false
set_option maxHeartbeats 1000000
namespace Rg
structure Stays (b : Nat) (o : Option Obj) (w2 : World) : Prop where
  heap : w2.heap[b]? = o
theorem Stays.drew {b : Nat} {o : Option Obj} {w : World} (h : Stays b o w) : Stays b o w.drew := ⟨h.heap⟩
theorem Stays.cell {b : Nat} {o : Option Obj} {w : World} (h : Stays b o w) {p : Addr} {u : Value} (hne : b ≠ p.block) : Stays b o (w.setCell p u) := ⟨(Below.heap_setCell w p u b hne).trans h.heap⟩
theorem Stays.and_ {b : Nat} {o : Option Obj} {w : World} {R : Prop} (h : Stays b o w) (k : Stays b o w → R) : Stays b o w ∧ R := ⟨h, k h⟩
theorem gives_load_at {P : Program} {o : Oper} {a : Act} {w w2 : World} {p : Addr} {v : Value} {t : TypeId} {x : Operand} {cs : Array Value} {e : TypeId} {fz : Nat × Nat} (ho : o.op = .load t x) (hx : a.eval x = .pointer (some p)) (hh : w.heap[p.block]? = some (.cells cs e fz)) (hh2 : w2.heap[p.block]? = some (.cells cs e fz)) (hg : Gives P o a w v) :
    Gives P o a w2 v := by
  unfold Gives at *
  obtain ⟨dst, op, type, pos, after, guard⟩ := o
  simp only at ho
  subst ho
  simp only [execOp, hx, Instr.loadAt, Instr.sureAddr, Sem.run_bind, Sem.run_pure, Result.andThen_ok, loadVar] at hg ⊢
  cases hi : (isAgg t).run P w with
  | halt x w1 => rw [hi] at hg; simp at hg
  | ok b w1 =>
    obtain ⟨rfl, hi2⟩ := free_isAgg P t w w2 b w1 hi
    rw [hi] at hg
    rw [hi2]
    simp only [Result.andThen_ok] at hg ⊢
    cases b
    · simp only [Bool.false_eq_true, if_false] at hg ⊢
      cases hl : (load p).run P w1 with
      | halt x w3 => rw [hl] at hg; simp at hg
      | ok u' w3 =>
        rw [hl] at hg
        simp only [Result.andThen_ok, Result.ok.injEq, Next.value.injEq] at hg
        obtain ⟨rfl, rfl⟩ := hg
        rw [run_load_since hh hh2 rfl hl]
        rfl
    · simp only [if_true, Sem.run_bind, Sem.run_pure] at hg ⊢
      cases hs : (sizeOf t).run P w1 with
      | halt x w3 => rw [hs] at hg; simp at hg
      | ok n w3 =>
        obtain ⟨rfl, hs2⟩ := free_sizeOf P t w1 w2 n w3 hs
        rw [hs] at hg
        rw [hs2]
        simp only [Result.andThen_ok, loadCells] at hg ⊢
        cases hl : (loadCellsFrom p 0 n #[]).run P w3 with
        | halt x w4 => rw [hl] at hg; simp at hg
        | ok r w4 =>
          rw [hl] at hg
          simp only [Result.andThen_ok, Result.ok.injEq, Next.value.injEq] at hg
          obtain ⟨rfl, rfl⟩ := hg
          rw [run_loadCells_since hh hh2 n 0 #[] r hl]
          rfl
end Rg
namespace Rg
section
variable {P : Program} {ops : Array Oper} {Q : Exit → Act → World → Prop} {S : World → Prop} {et sl : List Tmp} {md : Region.Mode}
inductive Ord where
  | done
  | seg (ns : List Nat) (t : Ord)
  | both (i j : Nat) (ti tj : Ord)
  | three (i j k : Nat) (ti tj tk : Ord)
def Ord.len : Ord → Nat
  | .done => 0
  | .seg ns t => ns.length + t.len
  | .both _ _ ti _ => ti.len + 1
  | .three _ _ _ ti _ _ => ti.len + 1
def listAll (ns : List Nat) (listed : Array Bool) : Array Bool := ns.foldl (fun l i => l.setIfInBounds i true) listed
theorem listAll_size (ns : List Nat) : ∀ listed : Array Bool, (listAll ns listed).size = listed.size := by
  induction ns with
  | nil => intro l; rfl
  | cons i ns ih => intro l; show (listAll ns (l.setIfInBounds i true)).size = _; rw [ih]; simp
theorem opAt_of {i : Nat} {QK : Act → World → Prop} {K : Act → World → Prop} {a : Act} {w : World} (hi : (ops[i]?).isSome = true) (hS : S w) (h : wpT P ops S et sl QK (pickL ops.toList [i]) a w) (hQ : ∀ a' w', S w' → QK a' w' → K a' w') : opAt P ops S et sl i K a w := by
  obtain ⟨oi, hi⟩ := Option.isSome_iff_exists.1 hi
  have hl : ops.toList[i]? = some oi := by simpa using hi
  simp only [pickL, hl, wpT] at h
  unfold opAt
  rw [hi]
  show opT P ops S et sl oi K a w
  unfold opT at h ⊢
  by_cases hw : Region.wanted oi (yielded ops a.tmps) = true
  · rw [if_pos hw] at h ⊢
    by_cases hE : isE et oi = true
    · rw [if_pos hE] at h ⊢
      exact Oper.wp_mono (fun a' w' h' => ⟨h'.1, hQ a' w' h'.1 h'.2⟩) h
    · rw [if_neg hE] at h ⊢
      obtain ⟨v, h1, h2, h3⟩ := h
      exact ⟨v, h1, h2, hQ _ _ hS h3⟩
  · rw [if_neg hw] at h ⊢
    exact hQ _ _ hS h
end
end Rg
end Go.Proofs.Ytopmbnnjhoinkaa
namespace Go.Proofs.Ytopmbnnjhoinkaa.Rg
open Go Go.RowKit
set_option linter.unusedVariables false
set_option linter.unusedSimpArgs false
set_option maxHeartbeats 1000000
theorem gives_idx {P : Program} {o : Oper} {a : Act} {w : World} {v : Value} {t : TypeId} {x ix : Operand} {A : Addr} {n c : Nat} {k : IntKind} {i : Int} (ho : o.op = .indexAddr t x ix) (hx : a.eval x = .slice (some A) n c) (hi : a.eval ix = .int k i) (hb : 0 ≤ i ∧ i < (n : Int)) (hg : Gives P o a w v) :
    ∀ w2, Gives P o a w2 v := by
  intro w2
  unfold Gives at *
  obtain ⟨dst, op', type, pos, after, guard⟩ := o
  simp only at ho
  subst ho
  simp only [execOp, hx, hi, Instr.indexAt, asIntOf, Sem.run_bind, Sem.run_pure, Result.andThen_ok] at hg ⊢
  cases hu : (underlying t).run P w with
  | halt y w1 => rw [hu] at hg; simp at hg
  | ok d w1 =>
    obtain ⟨rfl, h2⟩ := free_underlying P t w w2 d w1 hu
    rw [hu] at hg
    rw [h2]
    simp only [Result.andThen_ok] at hg ⊢
    cases d
    case slice e =>
      simp only [hu, h2, Sem.run_bind, Sem.run_pure, Result.andThen_ok, hb, if_true, and_self] at hg ⊢
      cases hs : (sizeOf e).run P w1 with
      | halt y w3 => rw [hs] at hg; simp at hg
      | ok m w3 =>
        obtain ⟨rfl, hs2⟩ := free_sizeOf P e w1 w2 m w3 hs
        rw [hs] at hg
        rw [hs2]
        simp only [Result.andThen_ok, Result.ok.injEq, Next.value.injEq] at hg ⊢
        exact ⟨hg.1, trivial⟩
    all_goals (simp [Instr.sureAddr] at hg)
def AtIdx (et : List Tmp) (o : Oper) (a : Act) : Prop := ∃ t x ix A n c k i, o.guard = none ∧ inT et o = false ∧ o.op = .indexAddr t x ix ∧ a.eval x = .slice (some A) n c ∧ a.eval ix = .int k i ∧ (0 ≤ i ∧ i < (n : Int))
theorem wpT_i {P : Program} {ops : Array Oper} {S : World → Prop} {et sl : List Tmp} {QT : Act → World → Prop} {o : Oper} {rest : List Oper} {a : Act} {w : World} (h0 : AtIdx et o a)
    (h : ∀ K : Act → World → Prop, (∀ a', wpT P ops S et sl QT rest a' w → K a' w) → o.wp P a w K Qf) : wpT P ops S et sl QT (o :: rest) a w := by
  obtain ⟨t, x, ix, A, n, c, k, i, hg, het, ho, hx, hi, hb⟩ := h0
  have h1 := h (fun a' w' => w' = w ∧ wpT P ops S et sl QT rest a' w') (fun a' h => ⟨rfl, h⟩)
  have he : isE et o = false := by simp [isE, isEop, ho, het]
  unfold Oper.wp at h1
  generalize hr : (execOp a.eval o).run P w = r at h1
  cases r with
  | ok n w' =>
    obtain ⟨v, rfl⟩ := exec_value he hr
    simp only [Oper.upon] at h1
    obtain ⟨rfl, h2⟩ := h1
    exact wpT_s v he hg hr (fun w2 _ => gives_idx ho hx hi hb hr w2) h2
  | halt y w' =>
    exfalso
    cases y <;> simp only [Oper.upon] at h1
    exact h1
end Go.Proofs.Ytopmbnnjhoinkaa.Rg
namespace Go.Proofs.Ytopmbnnjhoinkaa.Shut
open Go.RowKit
theorem and_intro {a b : Bool} (h : a = true) (g : b = true) : (a && b) = true := by rw [h, g]; rfl
theorem laidOut : laidOutB Try.prog = true := by kernel_rfl
theorem rowed : mapsRowed Try.prog = true := by kernel_rfl
theorem heard : Try.prog.stopsHeard = true := by kernel_rfl
theorem enter : Try.prog.mayEnter = true := by kernel_rfl
theorem lifts : Try.prog.liftsFinal = Rows.fnVotesOkRow.lifted := by kernel_rfl
theorem keys : Try.prog.plainKeys = Rows.fnVotesOkRow.plainKeys := by kernel_rfl
theorem stops : (Try.prog.stops == []) = true := by kernel_rfl
theorem knobs : (Try.prog.stopKnobs == []) = true := by kernel_rfl
theorem make : (Try.prog.make == some Rows.fnVotesOkRow.make) = true := by kernel_rfl
end Go.Proofs.Ytopmbnnjhoinkaa.Shut
