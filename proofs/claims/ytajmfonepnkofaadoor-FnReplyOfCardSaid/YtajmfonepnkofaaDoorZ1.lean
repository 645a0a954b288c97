/-
  What 'IP' rests on, part 1 of 11 (texts of this seat put together: Reg Base GA Open DR HE HW RegI).
  Conditions: none.
-/
import Derived.Below
import Derived.BigFrame
import Derived.BigQuiet
import Derived.ChangeOld
import Derived.ChangeSame
import Derived.Deep.Fields
import Derived.Deep.QuietTactic
import Derived.Deep.Slices
import Derived.OpenShut
import Derived.Orders
import Derived.ProofKit
import Derived.ShutString
import Derived.Tactics
import Derived.Test.YtajmfonepnkofaaDoorRows
import Derived.WalkKit
import Derived.WalkLawsBesides
import Derived.WalkSmall
import Derived.WalkSpells
namespace Go.Proofs.YtajmfonepnkofaaDoor.Rg
open Go Go.RowKit

/-- No end but the normal one. -/
def Qf : Exit → Act → World → Prop := fun _ _ _ => False

/-- Has the operation an effect? ('et': the temporaries of conversions that make memory.) -/
def isEop : Op → Bool
  | .move _ | .assign _ | .pick .. | .load .. | .binOp .. | .unOp .. | .fieldAddr .. | .field .. | .indexAddr .. | .index .. | .extract .. | .slice .. | .convert .. | .build .. | .lookup .. | .makeInterface .. | .nilCheck _ => false
  | .call { callee := .builtin .len, .. } | .call { callee := .builtin .cap, .. } => false
  | _ => true
def inT (l : List Tmp) (o : Oper) : Bool := match o.dst with | some d => l.contains d | none => false
def isE (et : List Tmp) (o : Oper) : Bool := isEop o.op || inT et o
/-- Operations that yield the same in every world ('zs': struct types all of whose fields have a size). -/
def cleanK (zs : List TypeId) : Op → Bool
  | .move _ | .assign _ | .pick .. | .extract .. => true
  | .fieldAddr s _ _ => zs.contains s
  | _ => false
def sizedB (P : Program) (zs : List TypeId) : Bool :=
  zs.all fun s => match P.underlying s with
    | some (.struct fs) => fs.all fun f => match P.info? f.type with | some i => i.size != 0 | none => false
    | _ => false

/-- What hangs on the program alone. -/
def Free {α : Type} (P : Program) (s : Sem α) : Prop := ∀ w w2 r w', s.run P w = .ok r w' → w' = w ∧ s.run P w2 = .ok r w2
theorem free_underlying (P : Program) (t : TypeId) : Free P (underlying t) := by
  intro w w2 r w' h
  unfold underlying at *
  simp only [Sem.run_bind, run_program, Result.andThen_ok] at h ⊢
  split at h <;> simp_all
theorem free_isAgg (P : Program) (t : TypeId) : Free P (isAgg t) := by
  intro w w2 r w' h
  unfold isAgg at *
  simp only [Sem.run_bind] at h ⊢
  cases hu : (underlying t).run P w with
  | halt x w1 => rw [hu] at h; simp at h
  | ok d w1 =>
    obtain ⟨rfl, h2⟩ := free_underlying P t w w2 d w1 hu
    rw [hu] at h
    rw [h2]
    simp only [Result.andThen_ok] at h ⊢
    split at h <;> simp_all
theorem free_sizeOf (P : Program) (t : TypeId) : Free P (sizeOf t) := by
  intro w w2 r w' h
  unfold sizeOf typeInfo at *
  simp only [Sem.run_bind, run_program, Result.andThen_ok] at h ⊢
  split at h <;> simp_all
theorem fieldAt_clean {P : Program} {zs : List TypeId} (hz : sizedB P zs = true) {s : TypeId} (hs : zs.contains s = true) {x v : Value} {i : Nat} {w w1 : World} (h : (Instr.fieldAt s x i).run P w = .ok v w1) (w2 : World) :
    w1 = w ∧ (Instr.fieldAt s x i).run P w2 = .ok v w2 := by
  have h1 := List.all_eq_true.1 hz s (by simpa using hs)
  cases hu : P.underlying s with
  | none => rw [hu] at h1; simp at h1
  | some d =>
    cases d with
    | struct fs =>
      rw [hu] at h1
      simp only at h1
      unfold Instr.fieldAt at *
      simp only [Sem.run_bind, run_underlying hu, Result.andThen_ok] at h ⊢
      cases hf : fs[i]? with
      | none => rw [hf] at h; simp at h
      | some f =>
        rw [hf] at h
        simp only [Sem.run_bind] at h ⊢
        have h2 := Array.all_eq_true_iff_forall_mem.1 h1 f (Array.mem_of_getElem? hf)
        cases hi : P.info? f.type with
        | none => rw [hi] at h2; simp at h2
        | some ti =>
          rw [hi] at h2
          have h3 : ti.size ≠ 0 := by simpa using h2
          cases x with
          | pointer a =>
            cases a with
            | none => simp [Instr.sureAddr] at h
            | some a =>
              simp [Instr.sureAddr, fieldPlace, sizeOf, typeInfo, hi, h3] at h ⊢
              exact ⟨h.2.symm, h.1⟩
          | _ => simp [Instr.sureAddr] at h
    | _ => rw [hu] at h1; simp at h1

section
variable {P : Program} {ops : Array Oper} {Q : Exit → Act → World → Prop} {S : World → Prop} {et sl : List Tmp} {md : Region.Mode}

/-- 'o' leaves 'v' and does nothing else. -/
def Gives (P : Program) (o : Oper) (a : Act) (w : World) (v : Value) : Prop := (execOp a.eval o).run P w = .ok (.value v) w

def opT (P : Program) (ops : Array Oper) (S : World → Prop) (et sl : List Tmp) (o : Oper) (K : Act → World → Prop) (a : Act) (w : World) : Prop :=
  if Region.wanted o (yielded ops a.tmps) then
    if isE et o then o.wp P a w (fun a' w' => S w' ∧ K a' w') Qf
    else ∃ v, Gives P o a w v ∧ (inT sl o = true → ∀ w2, S w2 → Gives P o a w2 v) ∧ K (a.put o.dst v) w
  else K (a.put o.dst undef) w

def wpT (P : Program) (ops : Array Oper) (S : World → Prop) (et sl : List Tmp) (Q : Act → World → Prop) : List Oper → Act → World → Prop
  | [], a, w => Q a w
  | o :: rest, a, w => opT P ops S et sl o (wpT P ops S et sl Q rest) a w

def opAt (P : Program) (ops : Array Oper) (S : World → Prop) (et sl : List Tmp) (i : Nat) (K : Act → World → Prop) (a : Act) (w : World) : Prop :=
  match ops[i]? with
  | none => False
  | some o => opT P ops S et sl o K a w

def wpAnyT (P : Program) (md : Region.Mode) (ops : Array Oper) (S : World → Prop) (et sl : List Tmp) (Q : Act → World → Prop) : Nat → Array Bool → Act → World → Prop
  | 0, listed, a, w => Region.ready md ops listed = [] ∧ Q a w
  | fuel + 1, listed, a, w =>
    (Region.ready md ops listed = [] → Q a w) ∧
    ∀ i ∈ Region.ready md ops listed, opAt P ops S et sl i (wpAnyT P md ops S et sl Q fuel (listed.setIfInBounds i true)) a w

theorem wp_Qf {o : Oper} {a : Act} {w : World} {K : Act → World → Prop} (h : o.wp P a w K Qf) : o.wp P a w K Q := by
  unfold Oper.wp at *
  generalize (execOp a.eval o).run P w = r at *
  cases r with
  | ok n w' =>
    cases n <;> simp only [Oper.upon] at h ⊢ <;>
      first
        | exact h
        | exact Calls.mono h (fun e w'' he => by
            cases e with
            | returned v => exact he
            | panicked c => exact he.elim
            | outgrown => obtain ⟨_, _, hx⟩ := he; exact hx.elim)
  | halt x w' => cases x <;> simp only [Oper.upon] at h ⊢ <;> exact h.elim

theorem opT_mono {o : Oper} {a : Act} {w : World} {K K' : Act → World → Prop} (h : ∀ a w, K a w → K' a w) (hh : opT P ops S et sl o K a w) : opT P ops S et sl o K' a w := by
  unfold opT at *
  split
  · rename_i hw
    rw [if_pos hw] at hh
    split
    · rename_i he; rw [if_pos he] at hh; exact Oper.wp_mono (fun a' w' ⟨h1, h2⟩ => ⟨h1, h _ _ h2⟩) hh
    · rename_i he; rw [if_neg he] at hh; obtain ⟨v, h1, h2, h3⟩ := hh; exact ⟨v, h1, h2, h _ _ h3⟩
  · rename_i hw; rw [if_neg hw] at hh; exact h _ _ hh

theorem wpAny_of_T {QT : Act → World → Prop} (hQ : ∀ a w, QT a w → Q .normal a w) : ∀ (fuel : Nat) (listed : Array Bool) (a : Act) (w : World),
    wpAnyT P md ops S et sl QT fuel listed a w → wpAny P md ops Q fuel listed a w
  | 0, _, _, _, h => ⟨h.1, hQ _ _ h.2⟩
  | fuel + 1, listed, a, w, h => ⟨fun h0 => hQ _ _ (h.1 h0), fun i hi => by
      have h2 := h.2 i hi
      unfold opAt at h2
      unfold wpOp
      cases ho : ops[i]? with
      | none => rw [ho] at h2; exact h2.elim
      | some o =>
        rw [ho] at h2
        simp only [opT] at h2 ⊢
        split
        · rename_i hw
          rw [if_pos hw] at h2
          refine .inl ?_
          by_cases he : isE et o = true
          · rw [if_pos he] at h2
            exact wp_Qf (Oper.wp_mono (fun a' w' h' => wpAny_of_T hQ fuel _ a' w' h'.2) h2)
          · rw [if_neg he] at h2
            obtain ⟨v, h3, _, h4⟩ := h2
            unfold Gives at h3
            unfold Oper.wp
            rw [h3]
            exact wpAny_of_T hQ fuel _ _ _ h4
        · rename_i hw
          rw [if_neg hw] at h2
          exact wpAny_of_T hQ fuel _ _ _ h2⟩

/-- What operation 'o' leaves in this state: its value (the same in every world that meets S, where it is slack), or nothing where it is not wanted. -/
def YT (P : Program) (ops : Array Oper) (S : World → Prop) (st : Bool) (o : Oper) (v : Value) (a : Act) (w : World) : Prop :=
  (Region.wanted o (yielded ops a.tmps) = true ∧ Gives P o a w v ∧ (st = true → ∀ w2, S w2 → Gives P o a w2 v)) ∨ (Region.wanted o (yielded ops a.tmps) = false ∧ v = undef)

theorem YT.of_same {o : Oper} {st : Bool} {v : Value} {a a' : Act} {w : World} (hy : YT P ops S st o v a w) (he : execOp a'.eval o = execOp a.eval o)
    (hw : Region.wanted o (yielded ops a'.tmps) = Region.wanted o (yielded ops a.tmps)) : YT P ops S st o v a' w := by
  unfold YT Gives at *
  rw [he, hw]
  exact hy

theorem YT.move {o : Oper} {v : Value} {a : Act} {w w' : World} (hy : YT P ops S true o v a w) (hS : S w') : YT P ops S true o v a w' := by
  rcases hy with ⟨h1, h2, h3⟩ | h
  · exact .inl ⟨h1, h3 rfl _ hS, h3⟩
  · exact .inr h

/-- 'i' is not an effect: what it leaves is put aside while 'j' is carried out. -/
theorem opT_put {oi oj : Oper} {st : Bool} {v : Value} (hap : oi.apart ops oj = true) (hsi : ∀ cs b, oi.op ≠ .select cs b) (hsj : ∀ cs b, oj.op ≠ .select cs b)
    (hst : isE et oj = true → st = true) {K : Act → World → Prop} {a : Act} {w : World}
    (hy : YT P ops S st oi v a w) (h : opT P ops S et sl oj K (a.put oi.dst v) w) (hS : S w) :
    opT P ops S et sl oj (fun a' w' => S w' ∧ YT P ops S st oi v a' w' ∧ K (a'.put oi.dst v) w') a w := by
  obtain ⟨h1, h2, h3⟩ := Oper.apart_spec hap
  have keep : ∀ (a : Act) (w : World), YT P ops S st oi v a w → ∀ u, YT P ops S st oi v (a.put oj.dst u) w := fun a w hy u =>
    hy.of_same (execOp_put oi hsi a oj.dst u h3) (wanted_put oi a oj.dst u h3)
  have keepD : ∀ (w : World) d, YT P ops S st oi v a w → YT P ops S st oi v { a with defers := d :: a.defers } w := fun w d hy => hy.of_same rfl rfl
  unfold opT at *
  rw [wanted_put oj a oi.dst v h1] at h
  split
  · rename_i hw
    rw [if_pos hw] at h
    split
    · rename_i he
      rw [if_pos he] at h
      have hs := hst he
      subst hs
      unfold Oper.wp at *
      rw [execOp_put oj hsj a oi.dst v h1] at h
      generalize (execOp a.eval oj).run P w = r at *
      cases r with
      | ok n w' =>
        cases n <;> simp only [Oper.upon] at h ⊢
        case value u => exact ⟨h.1, h.1, (keep a w hy u).move h.1, by rw [← Act.put_comm a v u h2]; exact h.2⟩
        case skip => exact ⟨h.1, h.1, (keep a w hy _).move h.1, by rw [← Act.put_comm a v undef h2]; exact h.2⟩
        case defer d =>
          refine ⟨h.1, h.1, (keep _ w (keepD w d hy) _).move h.1, ?_⟩
          rw [← Act.put_comm _ v undef h2, ← Act.put_defers]
          exact h.2
        case enter f args =>
          refine Calls.mono h fun e w'' he => ?_
          cases e with
          | returned u => exact ⟨he.1, he.1, (keep a w hy u).move he.1, by rw [← Act.put_comm a v u h2]; exact he.2⟩
          | panicked c => exact he
          | outgrown => exact he
        case row row args => exact Rows.mono h fun u w'' he => ⟨he.1, he.1, (keep a w hy u).move he.1, by rw [← Act.put_comm a v u h2]; exact he.2⟩
      | halt x w' =>
        cases x <;> simp only [Oper.upon] at h ⊢
        case panic u => exact h
    · rename_i he
      rw [if_neg he] at h
      obtain ⟨u, h4, h5, h6⟩ := h
      unfold Gives at h4 h5
      rw [execOp_put oj hsj a oi.dst v h1] at h4 h5
      exact ⟨u, h4, h5, hS, keep a w hy u, by rw [← Act.put_comm a v u h2]; exact h6⟩
  · rename_i hw
    rw [if_neg hw] at h
    exact ⟨hS, keep a w hy _, by rw [← Act.put_comm a v undef h2]; exact h⟩

theorem YT.opT {oi : Oper} {st : Bool} {v : Value} {a : Act} {w : World} (hE : isE et oi = false) (hst : inT sl oi = true → st = true) (hy : YT P ops S st oi v a w) {K : Act → World → Prop} (h : K (a.put oi.dst v) w) :
    opT P ops S et sl oi K a w := by
  unfold Rg.opT
  rcases hy with ⟨h1, h2, h3⟩ | ⟨h1, rfl⟩
  · rw [if_pos h1, if_neg (by simp [hE])]
    exact ⟨v, h2, fun hs => h3 (hst hs), h⟩
  · rw [if_neg (by simp [h1])]; exact h

/-- The set 'D' holds all that may come up while 'i' has not: 'i' aside, it is closed under 'all that it waits for is in D'. -/
def closedB (md : Region.Mode) (ops : Array Oper) (D : Array Bool) (i : Nat) : Bool :=
  (List.range ops.size).all fun j => j == i || D.getD j false || !(((ops[j]?).map (·.after.all fun e => !Region.binds md e || (e.on != i && D.getD e.on false))).getD false)

theorem closedB_spec {D : Array Bool} {i j : Nat} {oj : Oper} (h : closedB md ops D i = true) (hj : ops[j]? = some oj) (hne : j ≠ i) (hd : ∀ e ∈ oj.after, Region.binds md e = true → e.on ≠ i ∧ D.getD e.on false = true) : D.getD j false = true := by
  have h1 := List.all_eq_true.1 h j (List.mem_range.2 (Array.getElem?_eq_some_iff.1 hj).1)
  simp only [hj, Bool.or_eq_true, beq_iff_eq, hne, false_or, Option.map_some, Option.getD_some] at h1
  rcases h1 with h1 | h1
  · exact h1
  · exfalso
    have h2 : (oj.after.all fun e => !Region.binds md e || (e.on != i && D.getD e.on false)) = true := by
      rw [Array.all_eq_true_iff_forall_mem]
      intro e he
      cases hb : Region.binds md e with
      | false => rfl
      | true =>
        have := hd e he hb
        simp [this.1, this.2]
    rw [h2] at h1
    cases h1

/-- All that may come up before 'i', computed (edges lead backwards). -/
def before (md : Region.Mode) (ops : Array Oper) (listed : Array Bool) (i : Nat) : Array Bool :=
  (List.range ops.size).foldl (fun D j => if j == i then D else if ((ops[j]?).map (·.after.all fun e => !Region.binds md e || (e.on != i && D.getD e.on false))).getD false then D.setIfInBounds j true else D) listed

theorem wpAnyT_first {QT : Act → World → Prop} {i : Nat} {oi : Oper} {st : Bool} {v : Value} {D : Array Bool} (hi : ops[i]? = some oi) (hsel : ∀ (j : Nat) (o : Oper) cs b, ops[j]? = some o → o.op ≠ .select cs b)
    (hE : isE et oi = false) (hsl : inT sl oi = true → st = true) (hD : closedB md ops D i = true) :
    ∀ (fuel : Nat) (listed : Array Bool) (a : Act) (w : World),
      (∀ j oj, ops[j]? = some oj → j ≠ i → listed.getD j true = false → D.getD j false = true → oi.apart ops oj = true ∧ (isE et oj = true → st = true)) →
      (∀ j, listed.getD j false = true → j ≠ i ∧ D.getD j false = true) →
      i ∈ Region.ready md ops listed → YT P ops S st oi v a w → S w →
      wpAnyT P md ops S et sl QT fuel (listed.setIfInBounds i true) (a.put oi.dst v) w → wpAnyT P md ops S et sl QT (fuel + 1) listed a w := by
  intro fuel
  induction fuel with
  | zero =>
    intro listed a w _ _ hr hy hS H
    refine ⟨fun h => (by rw [h] at hr; cases hr), fun j hj => ?_⟩
    by_cases hji : j = i
    · subst hji; unfold opAt; rw [hi]; exact hy.opT hE hsl H
    · have := ready_mono hj hji
      rw [H.1] at this
      cases this
  | succ fuel ih =>
    intro listed a w hfree hin hr hy hS H
    refine ⟨fun h => (by rw [h] at hr; cases hr), fun j hj => ?_⟩
    by_cases hji : j = i
    · subst hji; unfold opAt; rw [hi]; exact hy.opT hE hsl H
    · have h1 := H.2 j (ready_mono hj hji)
      obtain ⟨hjun, oj, hoj, hall⟩ := mem_ready.1 hj
      have hDj : D.getD j false = true := closedB_spec hD hoj hji fun e he hb => hin _ (hall e he hb)
      unfold opAt at h1 ⊢
      rw [hoj] at h1 ⊢
      have hf := hfree j oj hoj hji hjun hDj
      have h2 := opT_put hf.1 (fun cs b => hsel i oi cs b hi) (fun cs b => hsel j oj cs b hoj) hf.2 hy h1 hS
      have hfree' : ∀ k ok, ops[k]? = some ok → k ≠ i → (listed.setIfInBounds j true).getD k true = false → D.getD k false = true → oi.apart ops ok = true ∧ (isE et ok = true → st = true) := fun k ok hk hki hun hd => by
        refine hfree k ok hk hki ?_ hd
        by_cases hjk : j = k
        · subst hjk; exact hjun
        · rw [getD_set_ne true hjk] at hun; exact hun
      have hin' : ∀ k, (listed.setIfInBounds j true).getD k false = true → k ≠ i ∧ D.getD k false = true := fun k hk => by
        by_cases hjk : j = k
        · subst hjk; exact ⟨hji, hDj⟩
        · rw [getD_set_ne false hjk] at hk; exact hin k hk
      refine opT_mono (fun a' w' h3 => ih (listed.setIfInBounds j true) a' w' hfree' hin' (ready_mono hr (Ne.symm hji)) h3.2.1 h3.1 ?_) h2
      rw [Array.setIfInBounds_comm _ _ hji]
      exact h3.2.2

/-- The check: 'ns' is an order in which the region may be walked. -/
def okT (zs : List TypeId) (md : Region.Mode) (ops : Array Oper) (et sl : List Tmp) : List Nat → Array Bool → Bool
  | [], listed => (Region.ready md ops listed).isEmpty
  | i :: ns, listed =>
    (match ops[i]? with
     | none => false
     | some oi =>
       if isE et oi then decide (Region.ready md ops listed = [i])
       else
         let D := before md ops listed i
         (Region.ready md ops listed).contains i && closedB md ops D i &&
         (List.range ops.size).all (fun j => (!listed.getD j false || (j != i && D.getD j false)) && (j == i || listed.getD j true || !D.getD j false ||
           match ops[j]? with
           | none => true
           | some oj => oi.apart ops oj && (!isE et oj || cleanK zs oi.op || inT sl oi)))) &&
    okT zs md ops et sl ns (listed.setIfInBounds i true)

def pickL (l : List Oper) : List Nat → List Oper
  | [] => []
  | n :: ns => match l[n]? with
    | some o => o :: pickL l ns
    | none => pickL l ns

theorem clean_gives {zs : List TypeId} (hz : sizedB P zs = true) {o : Oper} {a : Act} {w : World} {v : Value} (hk : cleanK zs o.op = true) (h : Gives P o a w v) (w2 : World) : Gives P o a w2 v := by
  unfold Gives at *
  obtain ⟨dst, op, type, pos, after, guard⟩ := o
  cases op
  case move x => simpa [execOp] using h
  case assign x => simpa [execOp] using h
  case pick c x y =>
    cases hc : a.eval c <;> simp [execOp, hc, asBool] at h ⊢
    exact h
  case extract t ix =>
    cases ht : a.eval t <;> simp [execOp, ht, Instr.extract] at h ⊢
    rename_i vs
    cases hv : vs[ix]? <;> simp [hv] at h ⊢
    exact h
  case fieldAddr s x i =>
    simp only [cleanK] at hk
    simp only [execOp, Sem.run_bind, Sem.run_pure] at h ⊢
    cases hf : (Instr.fieldAt s (a.eval x) i).run P w with
    | halt y w1 => rw [hf] at h; simp at h
    | ok u w1 =>
      obtain ⟨rfl, h2⟩ := fieldAt_clean hz hk hf w2
      rw [hf] at h
      rw [h2]
      simp only [Result.andThen_ok, Result.ok.injEq, Next.value.injEq] at h ⊢
      exact ⟨h.1, trivial⟩
  all_goals (simp [cleanK] at hk)

theorem wpAnyT_of_order {zs : List TypeId} (hz' : sizedB P zs = true) {QT : Act → World → Prop} (hs : Region.noSelect ops = true) : ∀ (ns : List Nat) (listed : Array Bool) (a : Act) (w : World), listed.size ≤ ops.size → okT zs md ops et sl ns listed = true → S w →
    wpT P ops S et sl QT (pickL ops.toList ns) a w → wpAnyT P md ops S et sl QT ns.length listed a w
  | [], listed, a, w, _, hB, _, h => ⟨by simpa [okT] using hB, h⟩
  | i :: ns, listed, a, w, hz, hB, hS, h => by
    simp only [okT, Bool.and_eq_true] at hB
    obtain ⟨hB1, hB2⟩ := hB
    cases hi : ops[i]? with
    | none => rw [hi] at hB1; simp at hB1
    | some oi =>
      rw [hi] at hB1
      have hl : ops.toList[i]? = some oi := by simpa using hi
      simp only [pickL, hl, wpT] at h
      by_cases hE : isE et oi = true
      · simp only [hE, if_true, decide_eq_true_eq] at hB1
        refine ⟨fun h0 => (by rw [hB1] at h0; cases h0), fun j hj => ?_⟩
        rw [hB1] at hj
        have hj' : j = i := by simpa using hj
        subst hj'
        have goal : opT P ops S et sl oi (wpAnyT P md ops S et sl QT ns.length (listed.setIfInBounds j true)) a w := by
          unfold opT at h ⊢
          by_cases hw : Region.wanted oi (yielded ops a.tmps) = true
          · rw [if_pos hw, if_pos hE] at h
            rw [if_pos hw, if_pos hE]
            exact Oper.wp_mono (fun a' w' h' => ⟨h'.1, wpAnyT_of_order hz' hs ns _ a' w' (by simpa using hz) hB2 h'.1 h'.2⟩) h
          · rw [if_neg hw] at h
            rw [if_neg hw]
            exact wpAnyT_of_order hz' hs ns _ _ _ (by simpa using hz) hB2 hS h
        unfold opAt
        rw [hi]
        exact goal
      · have hE' : isE et oi = false := by simpa using hE
        simp only [hE', Bool.false_eq_true, if_false, Bool.and_eq_true] at hB1
        obtain ⟨⟨hr, hcl⟩, hall⟩ := hB1
        have hall' := fun j oj (hj : ops[j]? = some oj) => List.all_eq_true.1 hall j (List.mem_range.2 (Array.getElem?_eq_some_iff.1 hj).1)
        have hy : ∃ v, YT P ops S (cleanK zs oi.op || inT sl oi) oi v a w ∧ wpT P ops S et sl QT (pickL ops.toList ns) (a.put oi.dst v) w := by
          unfold opT at h
          by_cases hw : Region.wanted oi (yielded ops a.tmps) = true
          · rw [if_pos hw, if_neg hE] at h
            obtain ⟨v, h1, h2, h3⟩ := h
            refine ⟨v, .inl ⟨hw, h1, fun hst w2 hw2 => ?_⟩, h3⟩
            rcases Bool.or_eq_true _ _ ▸ hst with hk | hk
            · exact clean_gives hz' hk h1 w2
            · exact h2 hk w2 hw2
          · rw [if_neg hw] at h
            exact ⟨undef, .inr ⟨by simpa using hw, rfl⟩, h⟩
        obtain ⟨v, hy, hK⟩ := hy
        refine wpAnyT_first hi (Region.noSelect_spec hs) hE' (fun hsl => by simp [hsl]) hcl ns.length listed a w ?_ ?_ (by simpa using hr) hy hS (wpAnyT_of_order hz' hs ns _ _ _ (by simpa using hz) hB2 hS hK)
        · intro j oj hj hne hun hd
          have h1 := (Bool.and_eq_true _ _ ▸ hall' j oj hj).2
          simp only [hj, hne, hun, hd, Bool.or_eq_true, beq_iff_eq, Bool.and_eq_true, Bool.not_eq_true', false_or, Bool.false_eq_true, Bool.true_eq_false] at h1
          refine ⟨h1.1, fun he => ?_⟩
          rcases h1.2 with (h2 | h2) | h2
          · rw [he] at h2; cases h2
          · simp [h2]
          · simp [h2]
        · intro j hj
          have hlt : j < ops.size := by
            rcases Nat.lt_or_ge j listed.size with h' | h'
            · omega
            · simp [Array.getElem?_eq_none h'] at hj
          have h1 := List.all_eq_true.1 hall j (List.mem_range.2 hlt)
          simp only [hj, Bool.and_eq_true, Bool.or_eq_true, Bool.not_true, Bool.false_eq_true, false_or, bne_iff_ne] at h1
          exact h1.1

/-- THE LAW: a region that draws its order, walked in the order 'ns'. -/
theorem wp_region_T {id : Nat} {a : Act} {w : World} {l : List Oper} (S : World → Prop) (zs : List TypeId) (et sl : List Tmp) (ns : List Nat) (hz : sizedB P zs = true) (hm : P.follows .mixedOrders = true)
    (hB : (Region.noSelect l.toArray && decide (ns.length = l.length) && okT zs .any l.toArray et sl ns (Array.replicate l.length false)) = true) (hS : S w.drew)
    (h : wpT P l.toArray S et sl (fun a' w' => Q .normal a' w') (pickL l ns) a w.drew) : (Code.region id l.toArray true).wp P Q a w := by
  simp only [Bool.and_eq_true, decide_eq_true_eq] at hB
  obtain ⟨⟨hs, hl⟩, hB⟩ := hB
  refine wp_region_any hm ?_
  have h1 := wpAnyT_of_order (P := P) (md := .any) (S := S) (et := et) (sl := sl) (QT := fun a' w' => Q .normal a' w') hz hs ns (Array.replicate l.length false) a w.drew (by simp) hB hS (by simpa using h)
  have h2 := wpAny_of_T (P := P) (Q := Q) (fun _ _ h => h) _ _ _ _ h1
  rw [hl] at h2
  simpa using h2

theorem wpT_nil {QT : Act → World → Prop} {a : Act} {w : World} (h : QT a w) : wpT P ops S et sl QT [] a w := h

theorem exec_value {o : Oper} {a : Act} {w w' : World} {n : Next} (he : isE et o = false) (h : (execOp a.eval o).run P w = .ok n w') : ∃ v, n = .value v := by
  obtain ⟨dst, op, type, pos, after, guard⟩ := o
  have he' : isEop op = false := by
    simp only [isE, Bool.or_eq_false_iff] at he; exact he.1
  have key : ∀ (s : Sem Value), (do pure (Next.value (← s)) : Sem Next).run P w = .ok n w' → ∃ v, n = .value v := fun s hs => by
    simp only [Sem.run_bind, Sem.run_pure] at hs
    generalize s.run P w = r at hs
    cases r with
    | ok v w2 => simp at hs; exact ⟨v, hs.1.symm⟩
    | halt x w2 => simp at hs
  cases op
  case call c =>
    obtain ⟨callee, args, ats⟩ := c
    cases callee with
    | builtin b =>
      rw [BigFrame.execOp_builtin] at h
      cases b <;> simp [isEop] at he'
      · rw [BigFrame.builtin_cap] at h; exact key _ h
      · rw [BigFrame.builtin_len] at h; exact key _ h
    | value f => simp [isEop] at he'
    | invoke f m => simp [isEop] at he'
  case move x => simp [execOp] at h; exact ⟨_, h.1.symm⟩
  case assign x => simp [execOp] at h; exact ⟨_, h.1.symm⟩
  case pick c x y =>
    simp only [execOp, Sem.run_bind, Sem.run_pure] at h
    generalize (asBool (a.eval c)).run P w = r at h
    cases r with
    | ok v w2 => simp at h; exact ⟨_, h.1.symm⟩
    | halt x w2 => simp at h
  case nilCheck x =>
    simp only [execOp] at h
    split at h
    · simp [runtimePanic] at h
    · simp [runtimePanic] at h
    · simp [runtimePanic] at h
    · split at h
      · simp [runtimePanic] at h
      · simp only [Sem.run_bind] at h
        generalize hq : (Sem.run P _ w) = r at h
        cases r with
        | ok v w2 =>
          simp only [Result.andThen_ok] at h
          generalize hq2 : (Sem.run P _ w2) = r2 at h
          cases r2 with
          | ok v2 w3 =>
            simp only [Result.andThen_ok] at h
            split at h
            · simp at h
            · simp at h; exact ⟨_, h.1.symm⟩
          | halt y w3 => simp at h
        | halt y w2 => simp at h
      · simp at h; exact ⟨_, h.1.symm⟩
    · simp at h; exact ⟨_, h.1.symm⟩
  all_goals first
    | exact key _ h
    | (simp [isEop] at he'; done)

/-- An operation without effect. -/
theorem wpT_q {QT : Act → World → Prop} {o : Oper} {rest : List Oper} {a : Act} {w : World} (he : isE et o = false) (hs : inT sl o = false)
    (h : ∀ K : Act → World → Prop, (∀ a', wpT P ops S et sl QT rest a' w → K a' w) → if Region.wanted o (yielded ops a.tmps) then o.wp P a w K Qf else K (a.put o.dst undef) w) : wpT P ops S et sl QT (o :: rest) a w := by
  have h1 := h (fun a' w' => w' = w ∧ wpT P ops S et sl QT rest a' w) (fun a' h => ⟨rfl, h⟩)
  unfold wpT opT
  split
  · rename_i hw
    rw [if_pos hw] at h1
    rw [if_neg (by simp [he])]
    unfold Oper.wp at h1
    unfold Gives
    generalize hr : (execOp a.eval o).run P w = r at h1
    cases r with
    | ok n w' =>
      obtain ⟨v, rfl⟩ := exec_value he hr
      simp only [Oper.upon] at h1
      obtain ⟨rfl, h2⟩ := h1
      exact ⟨v, rfl, by simp [hs], h2⟩
    | halt x w' =>
      exfalso
      cases x <;> simp only [Oper.upon] at h1
      exact h1
  · rename_i hw
    rw [if_neg hw] at h1
    exact h1.2

/-- An operation without effect that may come up behind another one's effect: it must yield the same in every world that meets S. -/
theorem wpT_s {QT : Act → World → Prop} {o : Oper} {rest : List Oper} {a : Act} {w : World} (v : Value) (he : isE et o = false) (hg : o.guard = none) (hv : Gives P o a w v) (hs : ∀ w2, S w2 → Gives P o a w2 v)
    (h : wpT P ops S et sl QT rest (a.put o.dst v) w) : wpT P ops S et sl QT (o :: rest) a w := by
  unfold wpT opT
  rw [if_pos (by simp [Region.wanted, hg]), if_neg (by simp [he])]
  exact ⟨v, hv, fun _ => hs, h⟩

/-- An operation with an effect. -/
theorem wpT_e {QT : Act → World → Prop} {o : Oper} {rest : List Oper} {a : Act} {w : World} (he : isE et o = true)
    (h : ∀ K : Act → World → Prop, (∀ a' w', S w' ∧ wpT P ops S et sl QT rest a' w' → K a' w') → if Region.wanted o (yielded ops a.tmps) then o.wp P a w K Qf else K (a.put o.dst undef) w) : wpT P ops S et sl QT (o :: rest) a w := by
  have h1 := h (fun a' w' => S w' ∧ wpT P ops S et sl QT rest a' w') (fun a' w' h => h)
  unfold wpT opT
  split
  · rename_i hw
    rw [if_pos hw] at h1
    first | exact h1 | (rw [if_pos he]; exact h1)
  · rename_i hw
    rw [if_neg hw] at h1
    exact h1.2
theorem wpT_e0 {QT : Act → World → Prop} {o : Oper} {rest : List Oper} {a : Act} {w : World} (he : isE et o = true)
    (h : ∀ K : Act → World → Prop, (∀ a' w', wpT P ops (fun _ => True) et sl QT rest a' w' → K a' w') → if Region.wanted o (yielded ops a.tmps) then o.wp P a w K Qf else K (a.put o.dst undef) w) : wpT P ops (fun _ => True) et sl QT (o :: rest) a w :=
  wpT_e he fun K hK => h K fun a' w' h' => hK a' w' ⟨trivial, h'⟩

/-! The same, by what the guard says. -/
theorem yielded_list (l : List Oper) (ts : List Value) (ds : List Deferred) (j : Nat) (t : Tmp) (b : Bool) (hd : (l[j]?).bind (·.dst) = some t) (ht : ts[t]? = some (.bool b)) : yielded l.toArray (⟨ts.toArray, ds⟩ : Act).tmps j = some b := by
  unfold yielded
  simp [hd, ht]
theorem wanted_yes {l : List Oper} {ts : List Value} {ds : List Deferred} {o : Oper} (j : Nat) (want : Bool) (t : Tmp) (hg : o.guard = some (j, want)) (hd : (l[j]?).bind (·.dst) = some t) (ht : ts[t]? = some (.bool want)) :
    Region.wanted o (yielded l.toArray (⟨ts.toArray, ds⟩ : Act).tmps) = true := by
  simp [Region.wanted, hg, yielded_list l ts ds j t want hd ht]
theorem wanted_no {l : List Oper} {ts : List Value} {ds : List Deferred} {o : Oper} (j : Nat) (want : Bool) (t : Tmp) (hg : o.guard = some (j, want)) (hd : (l[j]?).bind (·.dst) = some t) (ht : ts[t]? = some (.bool (!want))) :
    Region.wanted o (yielded l.toArray (⟨ts.toArray, ds⟩ : Act).tmps) = false := by
  simp [Region.wanted, hg, yielded_list l ts ds j t (!want) hd ht]
theorem wanted_un {l : List Oper} {ts : List Value} {ds : List Deferred} {o : Oper} (j : Nat) (want : Bool) (t : Tmp) (hg : o.guard = some (j, want)) (hd : (l[j]?).bind (·.dst) = some t) (ht : ts[t]? = some undef) :
    Region.wanted o (yielded l.toArray (⟨ts.toArray, ds⟩ : Act).tmps) = false := by
  simp [Region.wanted, hg, yielded, hd, ht, undef]
theorem wpT_q0 {QT : Act → World → Prop} {o : Oper} {rest : List Oper} {a : Act} {w : World} (hg : o.guard = none) (he : isE et o = false) (hs : inT sl o = false)
    (h : ∀ K : Act → World → Prop, (∀ a', wpT P ops S et sl QT rest a' w → K a' w) → o.wp P a w K Qf) : wpT P ops S et sl QT (o :: rest) a w :=
  wpT_q he hs fun K hK => by rw [if_pos (by simp [Region.wanted, hg])]; exact h K hK
theorem wpT_q1 {QT : Act → World → Prop} {o : Oper} {rest : List Oper} {a : Act} {w : World} (hg : Region.wanted o (yielded ops a.tmps) = true) (he : isE et o = false) (hs : inT sl o = false)
    (h : ∀ K : Act → World → Prop, (∀ a', wpT P ops S et sl QT rest a' w → K a' w) → o.wp P a w K Qf) : wpT P ops S et sl QT (o :: rest) a w :=
  wpT_q he hs fun K hK => by rw [if_pos hg]; exact h K hK
theorem wpT_no {QT : Act → World → Prop} {o : Oper} {rest : List Oper} {a : Act} {w : World} (hg : Region.wanted o (yielded ops a.tmps) = false)
    (h : wpT P ops S et sl QT rest (a.put o.dst undef) w) : wpT P ops S et sl QT (o :: rest) a w := by
  unfold wpT opT
  rw [if_neg (by simp [hg])]
  exact h
def setO (ts : List Value) : Option Tmp → List Value
  | some d => ts.set d undef
  | none => ts
theorem wpT_noL {QT : Act → World → Prop} {o : Oper} {rest : List Oper} {ts : List Value} {ds : List Deferred} {w : World} (hg : Region.wanted o (yielded ops (⟨ts.toArray, ds⟩ : Act).tmps) = false)
    (h : wpT P ops S et sl QT rest ⟨(setO ts o.dst).toArray, ds⟩ w) : wpT P ops S et sl QT (o :: rest) ⟨ts.toArray, ds⟩ w := by
  refine wpT_no hg ?_
  cases hd : o.dst with
  | none => simpa [hd, Act.put, setO] using h
  | some d => simpa [hd, Act.put, setO] using h
theorem wpT_x0 {QT : Act → World → Prop} {o : Oper} {rest : List Oper} {a : Act} {w : World} (hg : o.guard = none) (he : isE et o = true)
    (h : ∀ K : Act → World → Prop, (∀ a' w', wpT P ops (fun _ => True) et sl QT rest a' w' → K a' w') → o.wp P a w K Qf) : wpT P ops (fun _ => True) et sl QT (o :: rest) a w :=
  wpT_e0 he fun K hK => by rw [if_pos (by simp [Region.wanted, hg])]; exact h K hK
theorem wpT_x1 {QT : Act → World → Prop} {o : Oper} {rest : List Oper} {a : Act} {w : World} (hg : Region.wanted o (yielded ops a.tmps) = true) (he : isE et o = true)
    (h : ∀ K : Act → World → Prop, (∀ a' w', wpT P ops (fun _ => True) et sl QT rest a' w' → K a' w') → o.wp P a w K Qf) : wpT P ops (fun _ => True) et sl QT (o :: rest) a w :=
  wpT_e0 he fun K hK => by rw [if_pos hg]; exact h K hK
theorem wpT_xs0 {QT : Act → World → Prop} {o : Oper} {rest : List Oper} {a : Act} {w : World} (hg : o.guard = none) (he : isE et o = true)
    (h : ∀ K : Act → World → Prop, (∀ a' w', S w' ∧ wpT P ops S et sl QT rest a' w' → K a' w') → o.wp P a w K Qf) : wpT P ops S et sl QT (o :: rest) a w :=
  wpT_e he fun K hK => by rw [if_pos (by simp [Region.wanted, hg])]; exact h K hK
theorem wpT_xs1 {QT : Act → World → Prop} {o : Oper} {rest : List Oper} {a : Act} {w : World} (hg : Region.wanted o (yielded ops a.tmps) = true) (he : isE et o = true)
    (h : ∀ K : Act → World → Prop, (∀ a' w', S w' ∧ wpT P ops S et sl QT rest a' w' → K a' w') → o.wp P a w K Qf) : wpT P ops S et sl QT (o :: rest) a w :=
  wpT_e he fun K hK => by rw [if_pos hg]; exact h K hK
end

/-- 'w2' has all that 'w0' had, and perhaps more: the condition that is kept behind the effects of a region whose loads may come up late. -/
structure Since (w0 w2 : World) : Prop where
  size : w0.heap.size ≤ w2.heap.size
  block : ∀ b, b < w0.heap.size → w2.heap[b]? = w0.heap[b]?
theorem Since.refl (w : World) : Since w w := ⟨Nat.le_refl _, fun _ _ => rfl⟩
theorem Since.drew (w : World) : Since w w.drew := ⟨Nat.le_refl _, fun _ _ => rfl⟩
theorem Since.drewR {w0 w : World} (h : Since w0 w) : Since w0 w.drew := ⟨h.size, h.block⟩
theorem Since.below {w0 w w' : World} (h : Since w0 w) (hb : Below w.heap.size w w') : Since w0 w' :=
  ⟨Nat.le_trans h.size hb.size, fun b hb' => (hb.block b (Nat.lt_of_lt_of_le hb' h.size)).trans (h.block b hb')⟩
theorem Since.alloc {w0 w : World} (h : Since w0 w) (o : Obj) : Since w0 (w.alloc o) := h.below ((Below.refl _ _).alloc (Nat.le_refl _) o)
theorem Since.cell {w0 w : World} (h : Since w0 w) {p : Addr} {v : Value} (hp : p.block < w0.heap.size) (hc : w0.cell? p = some v) : w.cell? p = some v :=
  (World.cell?_of_block (h.block p.block hp)).trans hc
theorem Since.and_ {w0 w : World} {R : Prop} (h : Since w0 w) (k : Since w0 w → R) : Since w0 w ∧ R := ⟨h, k h⟩
theorem lt_of_cell {w : World} {p : Addr} {v : Value} (h : w.cell? p = some v) : p.block < w.heap.size := by
  rcases Nat.lt_or_ge p.block w.heap.size with h1 | h1
  · exact h1
  · simp [World.cell?, Array.getElem?_eq_none h1] at h
theorem run_load_since {P : Program} {w w2 : World} {b : Nat} {cs : Array Value} {e : TypeId} {fz : Nat × Nat} (h1 : w.heap[b]? = some (.cells cs e fz)) (h2 : w2.heap[b]? = some (.cells cs e fz)) {p : Addr} (hp : p.block = b) {v : Value} {m : Mode}
    (h : (load p m).run P w = .ok v w) : (load p m).run P w2 = .ok v w2 := by
  subst hp
  have hc : w2.cell? p = w.cell? p := by simp [World.cell?, h1, h2]
  rw [run_load] at h ⊢
  rw [hc]
  cases hv : w.cell? p with
  | some u => rw [hv] at h; simp at h ⊢; exact h
  | none =>
    rw [hv] at h
    simp [World.farLoad, h1] at h
theorem run_loadCells_since {P : Program} {w w2 : World} {cs : Array Value} {e : TypeId} {fz : Nat × Nat} {p : Addr} (h1 : w.heap[p.block]? = some (.cells cs e fz)) (h2 : w2.heap[p.block]? = some (.cells cs e fz)) :
    ∀ (n i : Nat) (acc r : Array Value), (loadCellsFrom p i n acc).run P w = .ok r w → (loadCellsFrom p i n acc).run P w2 = .ok r w2
  | 0, i, acc, r, h => by simpa [loadCellsFrom] using h
  | n + 1, i, acc, r, h => by
    simp only [loadCellsFrom, Sem.run_bind] at h ⊢
    have hb : (p.add i).block = p.block := by unfold Addr.add; split <;> rfl
    cases hl : (load (p.add i)).run P w with
    | halt x w' => rw [hl] at h; simp at h
    | ok u w' =>
      have hw : w' = w := by
        rw [run_load] at hl
        split at hl
        · simp at hl; exact hl.2.symm
        · simp [World.farLoad, hb, h1] at hl
      subst hw
      rw [hl] at h
      rw [run_load_since (by rw [hb]; exact h1) (by rw [hb]; exact h2) rfl hl]
      exact run_loadCells_since h1 h2 n (i + 1) _ r h
theorem gives_load {P : Program} {o : Oper} {a : Act} {w w0 : World} {p : Addr} {u v : Value} {t : TypeId} {x : Operand} (ho : o.op = .load t x) (hx : a.eval x = .pointer (some p)) (hc : w.cell? p = some u) (hp : p.block < w0.heap.size) (hS : Since w0 w) (hg : Gives P o a w v) :
    ∀ w2, Since w0 w2 → Gives P o a w2 v := by
  intro w2 h2
  obtain ⟨cs, e, fz, hh⟩ : ∃ cs e fz, w.heap[p.block]? = some (.cells cs e fz) := by
    unfold World.cell? at hc
    split at hc
    · rename_i cs e fz hh; exact ⟨cs, e, fz, hh⟩
    · cases hc
  have hh2 : w2.heap[p.block]? = some (.cells cs e fz) := (h2.block _ hp).trans ((hS.block _ hp).symm.trans hh)
  unfold Gives at *
  obtain ⟨dst, op, type, pos, after, guard⟩ := o
  simp only at ho
  subst ho
  simp only [execOp, hx, Instr.loadAt, Instr.sureAddr, Sem.run_bind, Sem.run_pure, Result.andThen_ok, loadVar] at hg ⊢
  cases hi : (isAgg t).run P w with
  | halt x w1 => rw [hi] at hg; simp at hg
  | ok b w1 =>
    obtain ⟨rfl, hi2⟩ := free_isAgg P t w w2 b w1 hi
    rw [hi] at hg
    rw [hi2]
    simp only [Result.andThen_ok] at hg ⊢
    cases b
    · simp only [Bool.false_eq_true, if_false] at hg ⊢
      cases hl : (load p).run P w1 with
      | halt x w3 => rw [hl] at hg; simp at hg
      | ok u' w3 =>
        rw [hl] at hg
        simp only [Result.andThen_ok, Result.ok.injEq, Next.value.injEq] at hg
        obtain ⟨rfl, rfl⟩ := hg
        rw [run_load_since hh hh2 rfl hl]
        rfl
    · simp only [if_true, Sem.run_bind, Sem.run_pure] at hg ⊢
      cases hs : (sizeOf t).run P w1 with
      | halt x w3 => rw [hs] at hg; simp at hg
      | ok n w3 =>
        obtain ⟨rfl, hs2⟩ := free_sizeOf P t w1 w2 n w3 hs
        rw [hs] at hg
        rw [hs2]
        simp only [Result.andThen_ok, loadCells] at hg ⊢
        cases hl : (loadCellsFrom p 0 n #[]).run P w3 with
        | halt x w4 => rw [hl] at hg; simp at hg
        | ok r w4 =>
          rw [hl] at hg
          simp only [Result.andThen_ok, Result.ok.injEq, Next.value.injEq] at hg
          obtain ⟨rfl, rfl⟩ := hg
          rw [run_loadCells_since hh hh2 n 0 #[] r hl]
          rfl
/-- A load that may come up behind an effect: its block stood when the region began. -/
theorem wpT_l {P : Program} {ops : Array Oper} {et sl : List Tmp} {QT : Act → World → Prop} {o : Oper} {rest : List Oper} {a : Act} {w w0 : World} {t : TypeId} (x : Operand) (p : Addr) (hg : o.guard = none) (ho : o.op = .load t x) (het : inT et o = false) (hx : a.eval x = .pointer (some p))
    (hS : Since w0 w) (hp : p.block < w0.heap.size) (hc : (w.cell? p).isSome = true)
    (h : ∀ K : Act → World → Prop, (∀ a', wpT P ops (Since w0) et sl QT rest a' w → K a' w) → o.wp P a w K Qf) : wpT P ops (Since w0) et sl QT (o :: rest) a w := by
  have h1 := h (fun a' w' => w' = w ∧ wpT P ops (Since w0) et sl QT rest a' w') (fun a' h => ⟨rfl, h⟩)
  have he : isE et o = false := by simp [isE, isEop, ho, het]
  obtain ⟨u, hc⟩ := Option.isSome_iff_exists.1 hc
  unfold Oper.wp at h1
  generalize hr : (execOp a.eval o).run P w = r at h1
  cases r with
  | ok n w' =>
    obtain ⟨v, rfl⟩ := exec_value he hr
    simp only [Oper.upon] at h1
    obtain ⟨rfl, h2⟩ := h1
    exact wpT_s v he hg hr (gives_load ho hx hc hp hS hr) h2
  | halt y w' =>
    exfalso
    cases y <;> simp only [Oper.upon] at h1
    exact h1
/-- Arithmetic that cannot panic. -/
def okInt (op : BinOp) (j : Int) : Bool := match op with
  | .shl | .shr => false
  | .quo | .rem => j != 0
  | _ => true
theorem gives_int {P : Program} {o : Oper} {a : Act} {w : World} {v : Value} {op : BinOp} {t r : TypeId} {x y : Operand} {k k' : IntKind} {i j : Int} (ho : o.op = .binOp op t x y r) (hx : a.eval x = .int k i) (hy : a.eval y = .int k' j) (hj : okInt op j = true) (hg : Gives P o a w v) :
    ∀ w2, Gives P o a w2 v := by
  intro w2
  unfold Gives at *
  obtain ⟨dst, op', type, pos, after, guard⟩ := o
  simp only at ho
  subst ho
  cases op <;> simp [okInt] at hj <;> simp [execOp, hx, hy, binOp, eqGuard, Op.intArith, Op.intDiv, Op.intBits, Op.intCmp, hj] at hg ⊢ <;> (try split at hg) <;> (try split at hg) <;> simp_all
/-- Integers' arithmetic that may come up behind an effect. -/
def AtInt (et : List Tmp) (o : Oper) (a : Act) : Prop := ∃ op t x y r k k' i j, o.guard = none ∧ inT et o = false ∧ o.op = .binOp op t x y r ∧ a.eval x = .int k i ∧ a.eval y = .int k' j ∧ okInt op j = true
theorem wpT_b {P : Program} {ops : Array Oper} {S : World → Prop} {et sl : List Tmp} {QT : Act → World → Prop} {o : Oper} {rest : List Oper} {a : Act} {w : World} (h0 : AtInt et o a)
    (h : ∀ K : Act → World → Prop, (∀ a', wpT P ops S et sl QT rest a' w → K a' w) → o.wp P a w K Qf) : wpT P ops S et sl QT (o :: rest) a w := by
  obtain ⟨op, t, x, y, r, k, k', i, j, hg, het, ho, hx, hy, hj⟩ := h0
  have h1 := h (fun a' w' => w' = w ∧ wpT P ops S et sl QT rest a' w') (fun a' h => ⟨rfl, h⟩)
  have he : isE et o = false := by simp [isE, isEop, ho, het]
  unfold Oper.wp at h1
  generalize hr : (execOp a.eval o).run P w = r at h1
  cases r with
  | ok n w' =>
    obtain ⟨v, rfl⟩ := exec_value he hr
    simp only [Oper.upon] at h1
    obtain ⟨rfl, h2⟩ := h1
    exact wpT_s v he hg hr (fun w2 _ => gives_int ho hx hy hj hr w2) h2
  | halt y w' =>
    exfalso
    cases y <;> simp only [Oper.upon] at h1
    exact h1
end Go.Proofs.YtajmfonepnkofaaDoor.Rg
namespace Go.Proofs.YtajmfonepnkofaaDoor
open Go Go.RowKit

theorem keepc {w w' : World} (hb : Below w.heap.size w w') {p : Addr} {v : Value} (h : w.cell? p = some v) : w'.cell? p = some v := by
  refine (hb.cell ?_).trans h
  rcases Nat.lt_or_ge p.block w.heap.size with h1 | h1
  · exact h1
  · simp [World.cell?, Array.getElem?_eq_none h1] at h

/-- A slice with address 'A' reads as 'xs' (an element: 'sz' cells, 'enc' gives them); its cells lie in one block from lo on, below hi. -/
def Sl {α : Type} (enc : α → List Value) (sz : Nat) (w : World) (lo hi : Nat) (A : Option Addr) (xs : List α) : Prop :=
  xs ≠ [] → ∃ b off, A = some ⟨b, off, none⟩ ∧ lo ≤ b ∧ b < hi ∧ ∀ (i : Nat) (x : α), xs[i]? = some x → ∀ (j : Nat) (u : Value), (enc x)[j]? = some u → w.cell? ⟨b, off + i * sz + j, none⟩ = some u

section
variable {α : Type} {enc : α → List Value} {sz : Nat} {w w' : World} {lo hi : Nat} {A : Option Addr} {xs ys : List α}

theorem Sl.nil_ : Sl enc sz w lo hi A [] := fun h => absurd rfl h
theorem Sl.keep (h : Sl enc sz w lo hi A xs) (hk : ∀ b, lo ≤ b → b < hi → w'.heap[b]? = w.heap[b]?) : Sl enc sz w' lo hi A xs := fun hne => by
  obtain ⟨b, off, rfl, h1, h2, h3⟩ := h hne
  exact ⟨b, off, rfl, h1, h2, fun i x hx j u hu => (World.cell?_of_block (hk b h1 h2)).trans (h3 i x hx j u hu)⟩
theorem Sl.below {B : Nat} (h : Sl enc sz w lo hi A xs) (hb : Below B w w') (hB : hi ≤ B) : Sl enc sz w' lo hi A xs :=
  h.keep fun b _ h2 => hb.block b (by omega)
theorem Sl.mono {lo' hi' : Nat} (h : Sl enc sz w lo hi A xs) (hl : lo' ≤ lo) (hh : hi ≤ hi') : Sl enc sz w lo' hi' A xs := fun hne => by
  obtain ⟨b, off, rfl, h1, h2, h3⟩ := h hne
  exact ⟨b, off, rfl, by omega, by omega, h3⟩
theorem Sl.addr (h : Sl enc sz w lo hi A xs) {k : Nat} (hk : k < xs.length) : ∃ b off, A = some ⟨b, off, none⟩ ∧ lo ≤ b ∧ b < hi := by
  obtain ⟨b, off, rfl, h1, h2, _⟩ := h (by rintro rfl; simp at hk)
  exact ⟨b, off, rfl, h1, h2⟩
theorem Sl.at_ {b off : Nat} (h : Sl enc sz w lo hi (some ⟨b, off, none⟩) xs) {k : Nat} (hk : k < xs.length) : ∀ (j : Nat) (u : Value), (enc xs[k])[j]? = some u → w.cell? ⟨b, off + k * sz + j, none⟩ = some u := by
  obtain ⟨b', off', he, _, _, h3⟩ := h (by rintro rfl; simp at hk)
  injection he with he
  injection he with e1 e2
  subst e1; subst e2
  exact h3 k xs[k] (List.getElem?_eq_getElem hk)
/-- A part of it: 's[i:j]'. -/
theorem Sl.part {b off : Nat} (h : Sl enc sz w lo hi (some ⟨b, off, none⟩) xs) (i n : Nat) : Sl enc sz w lo hi (some ⟨b, off + i * sz, none⟩) ((xs.drop i).take n) := fun hne => by
  have hx : xs ≠ [] := by rintro rfl; simp at hne
  obtain ⟨b', off', he, h1, h2, h3⟩ := h hx
  injection he with he
  injection he with e1 e2
  subst e1; subst e2
  refine ⟨b, _, rfl, h1, h2, fun k x hk j u hu => ?_⟩
  have hk' : xs[i + k]? = some x := by
    rw [List.getElem?_take] at hk
    split at hk
    · rw [List.getElem?_drop] at hk; exact hk
    · cases hk
  have := h3 (i + k) x hk' j u hu
  rw [Nat.add_mul, ← Nat.add_assoc] at this
  exact this
theorem Sl.take_ (h : Sl enc sz w lo hi A xs) (n : Nat) : Sl enc sz w lo hi A (xs.take n) := fun hne => by
  obtain ⟨b, off, rfl, h1, h2, h3⟩ := h (by rintro rfl; simp at hne)
  refine ⟨b, off, rfl, h1, h2, fun k x hk j u hu => h3 k x ?_ j u hu⟩
  rw [List.getElem?_take] at hk
  split at hk
  · exact hk
  · cases hk
end

/-- A slice value whose row the call itself made (a block from lo on): it owns the elements 'xs'. (Its capacity may be less than its block holds.) -/
def Own {α : Type} (enc : α → List Value) (sz : Nat) (e : TypeId) (w : World) (lo : Nat) (v : Value) (xs : List α) : Prop :=
  (v = .slice none 0 0 ∧ xs.length = 0) ∨
  ∃ g cap cur, v = .slice (some ⟨g, 0, none⟩) xs.length cap ∧ lo ≤ g ∧ w.heap[g]? = some (.cells cur e (0, 0)) ∧ xs.length ≤ cap ∧ cap ≤ maxLen ∧ cap * sz ≤ cur.size ∧ cur.toList.take (xs.length * sz) = xs.flatMap enc

theorem flatMap_len {α : Type} {enc : α → List Value} {sz : Nat} (hl : ∀ x, (enc x).length = sz) (xs : List α) : (xs.flatMap enc).length = xs.length * sz := by
  induction xs with
  | nil => simp
  | cons x xs ih => simp [List.flatMap_cons, ih, hl, Nat.add_mul, Nat.add_comm]
theorem flatMap_get {α : Type} {enc : α → List Value} {sz : Nat} (hl : ∀ x, (enc x).length = sz) : ∀ (xs : List α) (i : Nat) (x : α), xs[i]? = some x → ∀ j u, (enc x)[j]? = some u → (xs.flatMap enc)[i * sz + j]? = some u
  | [], i, x, h, j, u, hu => by simp at h
  | y :: xs, 0, x, h, j, u, hu => by
    simp at h; subst h
    have hj : j < (enc y).length := (List.getElem?_eq_some_iff.1 hu).1
    rw [List.flatMap_cons, Nat.zero_mul, Nat.zero_add, List.getElem?_append_left hj]
    exact hu
  | y :: xs, i + 1, x, h, j, u, hu => by
    rw [List.flatMap_cons, List.getElem?_append_right (by rw [hl, Nat.add_mul]; omega), hl, Nat.add_mul, show i * sz + 1 * sz + j - sz = i * sz + j by omega]
    exact flatMap_get hl xs i x (by simpa using h) j u hu
theorem flatMap_set {α : Type} {enc : α → List Value} {sz : Nat} (hl : ∀ x, (enc x).length = sz) : ∀ (xs : List α) (i : Nat) (x : α), i < xs.length →
    (xs.set i x).flatMap enc = (xs.flatMap enc).take (i * sz) ++ enc x ++ (xs.flatMap enc).drop (i * sz + sz)
  | [], i, x, h => by simp at h
  | y :: xs, 0, x, h => by
    have h1 : (enc y ++ xs.flatMap enc).drop (0 * sz + sz) = xs.flatMap enc := List.drop_left' (by rw [hl]; omega)
    simp only [List.set_cons_zero, List.flatMap_cons, h1]
    simp
  | y :: xs, i + 1, x, h => by
    simp only [List.set_cons_succ, List.flatMap_cons, flatMap_set hl xs i x (by simpa using h)]
    have e1 : (i + 1) * sz = sz + i * sz := by rw [Nat.add_mul]; omega
    have t1 : (enc y ++ xs.flatMap enc).take (sz + i * sz) = enc y ++ (xs.flatMap enc).take (i * sz) := by
      rw [List.take_append, hl, show sz + i * sz - sz = i * sz by omega, List.take_of_length_le (l := enc y) (by rw [hl]; omega)]
    have t2 : (enc y ++ xs.flatMap enc).drop (sz + i * sz + sz) = (xs.flatMap enc).drop (i * sz + sz) := by
      rw [List.drop_append, hl, show sz + i * sz + sz - sz = i * sz + sz by omega, List.drop_of_length_le (l := enc y) (by rw [hl]; omega), List.nil_append]
    rw [e1, t1, t2]
    simp only [List.append_assoc]
theorem splice_take {β : Type} (L s : List β) (p k n : Nat) (hp : p + k ≤ n) (hs : s.length = k) (hn : n ≤ L.length) :
    (L.take p ++ s ++ L.drop (p + k)).take n = (L.take n).take p ++ s ++ (L.take n).drop (p + k) := by
  have l1 : (L.take p ++ s).length = p + k := by rw [List.length_append, List.length_take, hs]; omega
  rw [List.take_append, l1, List.take_of_length_le (by rw [l1]; omega), List.take_take, Nat.min_eq_left (by omega), List.drop_take]

section
variable {α : Type} {enc : α → List Value} {sz : Nat} {e : TypeId} {w w' : World} {lo : Nat} {v : Value} {xs ys : List α}

theorem lt_of_heap {w : World} {g : Nat} {o : Obj} (h : w.heap[g]? = some o) : g < w.heap.size := (Array.getElem?_eq_some_iff.1 h).1
theorem Own.nil_ (enc : α → List Value) (sz : Nat) (e : TypeId) (w : World) (lo : Nat) : Own enc sz e w lo (.slice none 0 0) [] := .inl ⟨rfl, rfl⟩
theorem Own.lt (h : Own enc sz e w lo v xs) : ∀ k, v.ownBlock = some k → lo ≤ k ∧ k < w.heap.size := by
  intro k hk
  rcases h with ⟨rfl, _⟩ | ⟨g, cap, cur, rfl, hg, hh, _⟩
  · simp [Value.ownBlock] at hk
  · simp [Value.ownBlock] at hk
    subst hk
    exact ⟨hg, lt_of_heap hh⟩
theorem Own.keep (h : Own enc sz e w lo v xs) (hk : ∀ b, v.ownBlock = some b → w'.heap[b]? = w.heap[b]?) : Own enc sz e w' lo v xs := by
  rcases h with h | ⟨g, cap, cur, rfl, hg, hh, r⟩
  · exact .inl h
  · exact .inr ⟨g, cap, cur, rfl, hg, (hk g rfl).trans hh, r⟩
theorem Own.below {B : Nat} (h : Own enc sz e w lo v xs) (hb : Below B w w') (hB : w.heap.size ≤ B) : Own enc sz e w' lo v xs :=
  h.keep fun b hb' => hb.block b (by have := (h.lt b hb').2; omega)
theorem Own.alloc (h : Own enc sz e w lo v xs) (o : Obj) : Own enc sz e (w.alloc o) lo v xs :=
  h.below ((Below.refl w.heap.size w).alloc (Nat.le_refl _) o) (Nat.le_refl _)
theorem Own.drew (h : Own enc sz e w lo v xs) : Own enc sz e w.drew lo v xs := h
theorem Own.mono {lo' : Nat} (h : Own enc sz e w lo v xs) (hl : lo' ≤ lo) : Own enc sz e w lo' v xs := by
  rcases h with h | ⟨g, cap, cur, rfl, hg, r⟩
  · exact .inl h
  · exact .inr ⟨g, cap, cur, rfl, by omega, r⟩
/-- Its form. -/
theorem Own.form (h : Own enc sz e w lo v xs) : ∃ A c, v = .slice A xs.length c ∧ xs.length ≤ c ∧ c ≤ maxLen ∧ (A = none ∨ ∃ g, A = some ⟨g, 0, none⟩ ∧ lo ≤ g ∧ g < w.heap.size) := by
  rcases h with ⟨h2, h3⟩ | ⟨g, cap, cur, rfl, hg, hh, r⟩
  · exact ⟨none, 0, by rw [h2, h3], by omega, by simp [maxLen], .inl rfl⟩
  · exact ⟨_, cap, rfl, r.1, r.2.1, .inr ⟨g, rfl, hg, lt_of_heap hh⟩⟩
theorem Own.sl (hl : ∀ x, (enc x).length = sz) (h : Own enc sz e w lo v xs) : ∃ A c, v = .slice A xs.length c ∧ xs.length ≤ c ∧ c ≤ maxLen ∧ Sl enc sz w lo w.heap.size A xs := by
  rcases h with ⟨h2, h3⟩ | ⟨g, cap, cur, rfl, hg, hh, r1, r2, r3, r4⟩
  · have : xs = [] := List.eq_nil_of_length_eq_zero h3
    subst this
    exact ⟨none, 0, h2, by simp, by simp [maxLen], Sl.nil_⟩
  · refine ⟨_, cap, rfl, r1, r2, fun _ => ⟨g, 0, rfl, hg, lt_of_heap hh, fun i x hx j u hu => ?_⟩⟩
    have h5 := flatMap_get hl xs i x hx j u hu
    rw [← r4, List.getElem?_take] at h5
    split at h5
    · simp only [World.cell?, hh, Nat.zero_add]
      simpa using h5
    · cases h5
theorem Own.addrAt {A : Option Addr} {n c k : Nat} (h : Own enc sz e w lo (.slice A n c) xs) (hk : k < n) : ∃ g, A = some ⟨g, 0, none⟩ ∧ lo ≤ g ∧ g < w.heap.size := by
  rcases h with ⟨h2, h3⟩ | ⟨g, cap, cur, he, hg, hh, r⟩
  · injection h2 with e1 e2 e3
    omega
  · injection he with e1 e2 e3
    exact ⟨g, e1, hg, lt_of_heap hh⟩
theorem Own.lenEq {A : Option Addr} {n c : Nat} (h : Own enc sz e w lo (.slice A n c) xs) : n = xs.length := by
  rcases h with ⟨h2, h3⟩ | ⟨g, cap, cur, he, hg, hh, r⟩
  · injection h2 with e1 e2 e3
    omega
  · injection he with e1 e2 e3
/-- With an address in hand. -/
theorem Own.slAt (hl : ∀ x, (enc x).length = sz) {A : Option Addr} {n c : Nat} (h : Own enc sz e w lo (.slice A n c) xs) : n = xs.length ∧ n ≤ c ∧ Sl enc sz w lo w.heap.size A xs := by
  obtain ⟨A', c', he, h1, _, h2⟩ := h.sl hl
  injection he with e1 e2 e3
  subst e1; subst e2; subst e3
  exact ⟨rfl, h1, h2⟩
theorem Own.frozen {g n c : Nat} (h : Own enc sz e w lo (.slice (some ⟨g, 0, none⟩) n c) xs) (j : Nat) : w.frozen? ⟨g, j, none⟩ = false := by
  rcases h with ⟨h2, _⟩ | ⟨g', cap, cur, he, hg, hh, r⟩
  · cases h2
  · injection he with he
    injection he with he
    injection he with he
    subst he
    simp [World.frozen?, hh]
/-- The row itself. -/
theorem Own.row {g n c : Nat} (h : Own enc sz e w lo (.slice (some ⟨g, 0, none⟩) n c) xs) : n = xs.length ∧ lo ≤ g ∧ ∃ cur, w.heap[g]? = some (.cells cur e (0, 0)) ∧ n ≤ c ∧ c ≤ maxLen ∧ c * sz ≤ cur.size ∧ cur.toList.take (n * sz) = xs.flatMap enc := by
  rcases h with ⟨h2, _⟩ | ⟨g', cap, cur, he, hg, hh, r⟩
  · cases h2
  · injection he with e1 e2 e3
    injection e1 with e1
    injection e1 with e1
    subst e1; subst e2; subst e3
    exact ⟨rfl, hg, cur, hh, r⟩
theorem Own.of_row {g c : Nat} {cur : Array Value} (hlo : lo ≤ g) (hh : w.heap[g]? = some (.cells cur e (0, 0))) (hc : xs.length ≤ c) (hm : c ≤ maxLen) (hs : c * sz ≤ cur.size)
    (ht : cur.toList.take (xs.length * sz) = xs.flatMap enc) : Own enc sz e w lo (.slice (some ⟨g, 0, none⟩) xs.length c) xs :=
  .inr ⟨g, c, cur, rfl, hlo, hh, hc, hm, hs, ht⟩
/-- Shorter: 's[:k]'. -/
theorem Own.cutTo (hl : ∀ x, (enc x).length = sz) {g n c : Nat} (h : Own enc sz e w lo (.slice (some ⟨g, 0, none⟩) n c) xs) {k : Nat} (hk : k ≤ n) : Own enc sz e w lo (.slice (some ⟨g, 0, none⟩) k c) (xs.take k) := by
  obtain ⟨rfl, hg, cur, hh, h1, h2, h3, h4⟩ := h.row
  have hz : (xs.take k).length = k := by simp; omega
  have := Own.of_row (enc := enc) (sz := sz) (xs := xs.take k) hg hh (by omega) h2 h3 (by
    rw [hz]
    have e1 : cur.toList.take (k * sz) = (cur.toList.take (xs.length * sz)).take (k * sz) := by
      rw [List.take_take, Nat.min_eq_left (Nat.mul_le_mul_right _ hk)]
    rw [e1, h4]
    have : xs.flatMap enc = (xs.take k).flatMap enc ++ (xs.drop k).flatMap enc := by rw [← List.flatMap_append, List.take_append_drop]
    rw [this, List.take_append, flatMap_len hl, hz, Nat.sub_self, List.take_zero, List.append_nil, List.take_of_length_le (by rw [flatMap_len hl, hz]; omega)])
  rwa [hz] at this
end

section
variable {α : Type} {enc : α → List Value} {sz : Nat} {e : TypeId} {w : World} {lo : Nat} {xs : List α}
/-- 's[:len(s):len(s)]' -/
theorem Own.clip {A : Option Addr} {n c : Nat} (h : Own enc sz e w lo (.slice A n c) xs) : Own enc sz e w lo (.slice A n n) xs := by
  rcases h with ⟨h2, h3⟩ | ⟨g, cap, cur, he, hg, hh, r1, r2, r3, r4⟩
  · injection h2 with e1 e2 e3
    subst e1; subst e2
    exact .inl ⟨rfl, h3⟩
  · injection he with e1 e2 e3
    subst e1; subst e2
    exact .inr ⟨g, xs.length, cur, rfl, hg, hh, Nat.le_refl _, by omega, Nat.le_trans (Nat.mul_le_mul_right _ r1) r3, r4⟩
theorem Own.cap {A : Option Addr} {n c : Nat} (h : Own enc sz e w lo (.slice A n c) xs) : n ≤ c ∧ c ≤ maxLen := by
  rcases h with ⟨h2, h3⟩ | ⟨g, cap, cur, he, hg, hh, r1, r2, r3, r4⟩
  · injection h2 with e1 e2 e3
    subst e2; subst e3
    simp [maxLen]
  · injection he with e1 e2 e3
    subst e2; subst e3
    exact ⟨r1, r2⟩
end

/-- Cells j, j+1, .. of block g, written one after another. -/
def putCells (w : World) (g j : Nat) : List Value → World
  | [] => w
  | u :: us => putCells (w.setCell ⟨g, j, none⟩ u) g (j + 1) us

theorem heap_putCells (us : List Value) : ∀ (w : World) (g j : Nat) (cur : Array Value) (e : TypeId), w.heap[g]? = some (.cells cur e (0, 0)) → j + us.length ≤ cur.size →
    ∃ cur', (putCells w g j us).heap[g]? = some (.cells cur' e (0, 0)) ∧ cur'.size = cur.size ∧ cur'.toList = cur.toList.take j ++ us ++ cur.toList.drop (j + us.length) := by
  induction us with
  | nil => intro w g j cur e h hj; exact ⟨cur, h, rfl, by simp⟩
  | cons u us ih =>
    intro w g j cur e h hj
    simp only [List.length_cons] at hj
    have h1 : (w.setCell ⟨g, j, none⟩ u).heap[g]? = some (.cells (cur.setIfInBounds j u) e (0, 0)) := by
      simp [World.setCell, Array.getElem?_modify, h]
    obtain ⟨cur', h2, h3, h4⟩ := ih _ g (j + 1) _ e h1 (by simp; omega)
    refine ⟨cur', h2, by simpa using h3, ?_⟩
    rw [h4]
    have hlen : j < cur.toList.length := by simp; omega
    simp only [Array.toList_setIfInBounds, List.length_cons]
    rw [List.take_set, List.drop_set_of_lt (by omega)]
    have : (cur.toList.take (j + 1)).set j u = cur.toList.take j ++ [u] := by
      have hm : min j cur.size = j := by simp at hlen; omega
      rw [List.take_succ_eq_append_getElem hlen, List.set_append_right _ _ (by simp; omega)]
      simp [hm]
    rw [this, show j + 1 + us.length = j + (us.length + 1) by omega]
    simp

section
variable {α : Type} {enc : α → List Value} {sz : Nat} {e : TypeId} {w : World} {lo : Nat} {xs : List α}
theorem Own.put_ (hl : ∀ x, (enc x).length = sz) {g n c : Nat} (h : Own enc sz e w lo (.slice (some ⟨g, 0, none⟩) n c) xs) {i : Nat} (hi : i < n) (x : α) :
    Own enc sz e (putCells w g (i * sz) (enc x)) lo (.slice (some ⟨g, 0, none⟩) n c) (xs.set i x) := by
  obtain ⟨rfl, hg, cur, hh, h1, h2, h3, h4⟩ := h.row
  have hb : i * sz + sz ≤ xs.length * sz := by
    have := Nat.mul_le_mul_right sz (show i + 1 ≤ xs.length by omega)
    rw [Nat.add_mul] at this; omega
  have hb2 : xs.length * sz ≤ c * sz := Nat.mul_le_mul_right sz h1
  obtain ⟨cur', h5, h6, h7⟩ := heap_putCells (enc x) w g (i * sz) cur e hh (by rw [hl]; omega)
  have hz : (xs.set i x).length = xs.length := by simp
  have := Own.of_row (enc := enc) (sz := sz) (xs := xs.set i x) (c := c) hg h5 (by omega) h2 (by omega) (by
    rw [hz, h7, flatMap_set hl xs i x hi, hl, ← h4]
    exact splice_take _ _ _ _ _ hb (hl x) (by have := hb2; simp only [Array.length_toList]; omega))
  rwa [hz] at this
end

theorem below_putCells (us : List Value) : ∀ {B : Nat} {a w : World} {g j : Nat}, Below B a w → B ≤ g → Below B a (putCells w g j us) := by
  induction us with
  | nil => intro B a w g j h _; exact h
  | cons u us ih => intro B a w g j h hg; exact ih (h.setCell (p := ⟨g, j, none⟩) hg u) hg
theorem heap_putCells_other (us : List Value) : ∀ (w : World) (g j k : Nat), k ≠ g → (putCells w g j us).heap[k]? = w.heap[k]? := by
  induction us with
  | nil => intro w g j k _; rfl
  | cons u us ih => intro w g j k hk; exact (ih _ g (j + 1) k hk).trans (Below.heap_setCell w ⟨g, j, none⟩ u k hk)
theorem size_putCells (us : List Value) : ∀ (w : World) (g j : Nat), (putCells w g j us).heap.size = w.heap.size := by
  induction us with
  | nil => intro w g j; rfl
  | cons u us ih => intro w g j; exact (ih _ g (j + 1)).trans (by simp [World.setCell])

theorem grown_of_below {B : Nat} {a w w' : World} {row : Option Nat} (h : Below B a w) (hg : w.grownBy w' row) (hB : B ≤ w.heap.size) (hr : ∀ k, row = some k → B ≤ k) : Below B a w' := h.grown hg hB hr

section
variable {P : Program}
theorem run_app {α : Type} {enc : α → List Value} {sz0 : Nat} (hl : ∀ x, (enc x).length = sz0) (hsz : 0 < sz0) (h1c : ∀ x, ∀ u ∈ enc x, u.oneCell' = true) (t ty e : TypeId) (i : TypeInfo) (z : Value) (bytes : Nat) (ht : P.underlying t = some (.slice e)) (hi : P.info? e = some i) (hz : i.zero = some z)
    (hsize : i.size = sz0) (hby : i.bytes = bytes) (hzs : z.cells.size = sz0) {w : World} {lo : Nat} {v : Value} {xs : List α} (hown : Own enc sz0 e w lo v xs)
    (a : Addr) (ys : List α) (c : Nat) (hnews : ∀ j u, (ys.flatMap enc)[j]? = some u → w.cell? (a.add j) = some u)
    (h63 : xs.length + ys.length ≤ maxLen) (hbytes : (xs.length + ys.length) * bytes ≤ 140737488355328) (hbase : lo ≤ w.heap.size) :
    ∃ v' w', (Builtin.append_ #[t, t] ty #[v, .slice (some a) ys.length c]).run P w = .ok v' w' ∧ Own enc sz0 e w' lo v' (xs ++ ys) ∧ w.grownBy w' v.ownBlock := by
  subst hsize
  subst hby
  have hsmall : xs.length + ys.length ≤ 9223372036854775807 := by simp only [maxLen] at h63; omega
  have hxl := flatMap_len hl xs
  have hyl := flatMap_len hl ys
  have h1 : ∀ u ∈ ys.flatMap enc, u.oneCell' = true := fun u hu => by
    obtain ⟨x, _, hx⟩ := List.mem_flatMap.1 hu
    exact h1c x u hx
  have hlen : (xs.flatMap enc ++ ys.flatMap enc).length = (xs.length + ys.length) * i.size := by rw [List.length_append, hxl, hyl, Nat.add_mul]
  have grown : ∀ (old : Nat), old < xs.length + ys.length → ∀ (row : Option Nat),
      Own enc i.size e (w.drew.alloc (.cells ((xs.flatMap enc).toArray ++ (ys.flatMap enc).toArray ++ Builtin.zeroCells z.cells (grownCap w (xs.length + ys.length) old e - (xs.length + ys.length))) e)) lo
        (.slice (some ⟨w.heap.size, 0, none⟩) (xs.length + ys.length) (grownCap w (xs.length + ys.length) old e)) (xs ++ ys) ∧
      w.grownBy (w.drew.alloc (.cells ((xs.flatMap enc).toArray ++ (ys.flatMap enc).toArray ++ Builtin.zeroCells z.cells (grownCap w (xs.length + ys.length) old e - (xs.length + ys.length))) e)) row := by
    intro old ho row
    have hge := grownCap_ge w (xs.length + ys.length) old e
    have hcm : grownCap w (xs.length + ys.length) old e ≤ maxLen := grownCap_le_maxLen w (xs.length + ys.length) old e h63
    refine ⟨.inr ⟨w.heap.size, grownCap w (xs.length + ys.length) old e, _, by rw [List.length_append], hbase, heap_alloc_new w.drew _, by rw [List.length_append]; exact hge, hcm, ?_, ?_⟩, ⟨rfl, rfl, rfl, by simp, fun k hk _ => Below.heap_alloc w.drew _ k hk⟩⟩
    · apply Nat.le_of_eq
      simp only [Array.size_append, List.size_toArray, size_zeroCells, hzs, hxl, hyl, ← Nat.add_mul]
      congr 1
      omega
    · rw [List.length_append, List.flatMap_append]
      simp only [Array.toList_append, List.append_assoc]
      rw [← List.append_assoc, ← hlen]
      exact List.take_left
  rcases hown with ⟨rfl, h0⟩ | ⟨g, cap, cur, rfl, hbg, hg, hnc, hcm, hcs, htake⟩
  · have hx : xs = [] := List.eq_nil_of_length_eq_zero h0
    subst hx
    by_cases hm : ys.length = 0
    · have hn : ys = [] := List.eq_nil_of_length_eq_zero hm
      subst hn
      refine ⟨.slice none 0 0, w, ?_, by simpa using Own.nil_ enc i.size e w lo, ⟨rfl, rfl, rfl, Nat.le_refl _, fun _ _ _ => rfl⟩⟩
      simp [Builtin.append_, run_underlying ht, sizeOf, typeInfo, hi, Builtin.lenOf, Builtin.firstCells, loadCells, loadCellsFrom]
    · have hr := run_append_nil (P := P) w t ty e i z ht hi hz a ys.length c (ys.flatMap enc) hyl hnews (by omega) (by simp at hsmall; omega) (by have hb := hbytes; simp only [List.length_nil, Nat.zero_add] at hb; omega)
      have hgr := grown 0 (by simp; omega) (Value.ownBlock (.slice none 0 0))
      simp only [List.length_nil, Nat.zero_add, List.nil_append, List.flatMap_nil, Array.empty_append] at hgr ⊢
      exact ⟨_, _, hr, hgr.1, hgr.2⟩
  · by_cases hroom : xs.length + ys.length ≤ cap
    · have hfit : xs.length * i.size + (ys.flatMap enc).length ≤ cur.size := by
        have := Nat.mul_le_mul_right i.size hroom
        rw [hyl, ← Nat.add_mul]; omega
      have hr := run_append_room (P := P) w t ty e i ht hi g xs.length cap cur hg a ys.length c (ys.flatMap enc) hyl hnews h1 hroom hfit
      refine ⟨_, _, hr, .inr ⟨g, cap, _, by rw [List.length_append], hbg, setRow_heap w g cur _ e _ hg, by rw [List.length_append]; exact hroom, hcm, ?_, ?_⟩, ⟨rfl, rfl, rfl, by simp, fun k _ hk => setRow_other w g k _ (fun e => hk (by simp [Value.ownBlock, e]))⟩⟩
      · simp only [List.size_toArray, List.length_append, List.length_take, List.length_drop, Array.length_toList]
        omega
      · rw [List.length_append, List.flatMap_append, htake, ← hlen]
        exact List.take_left
    · have holds : ∀ j u, (xs.flatMap enc)[j]? = some u → w.cell? ((⟨g, 0, none⟩ : Addr).add j) = some u := by
        intro j u hu
        have h5 := hu
        rw [← htake, List.getElem?_take] at h5
        split at h5
        · have e2 : ((⟨g, 0, none⟩ : Addr).add j) = ⟨g, j, none⟩ := by
            unfold Addr.add
            split
            · rename_i h0; rw [h0]
            · simp
          rw [e2]
          simp only [World.cell?, hg]
          simpa using h5
        · cases h5
      have hr := run_append_grow (P := P) w t ty e i z ht hi hz ⟨g, 0, none⟩ xs.length cap (xs.flatMap enc) hxl holds a ys.length c (ys.flatMap enc) hyl hnews (by omega) (by omega) (growslice_fits (by omega) hbytes)
      have hgr := grown cap (by omega) (Value.ownBlock (.slice (some ⟨g, 0, none⟩) xs.length cap))
      exact ⟨_, _, hr, hgr.1, hgr.2⟩

/-- 'append(s, x...)' onto a row of the call's own. -/
theorem wp_app {α : Type} {enc : α → List Value} {sz : Nat} (hl : ∀ x, (enc x).length = sz) (hsz : 0 < sz) (h1c : ∀ x, ∀ u ∈ enc x, u.oneCell' = true)
    {o : Oper} {a : Act} {w : World} {K : Act → World → Prop} {Q : Exit → Act → World → Prop} (s x : Operand) (t : TypeId)
    (ho : o.op = .call { callee := .builtin .append, args := #[s, x], argTypes := #[t, t] })
    (e : TypeId) (z : Value) (bytes : Nat) (ht : P.underlying t = some (.slice e)) (hi : (P.info? e).map (fun i => (i.zero, i.size, i.bytes)) = some (some z, sz, bytes)) (hzs : z.cells.size = sz)
    (lo : Nat) (v : Value) (xs : List α) (hs : a.eval s = v) (hown : Own enc sz e w lo v xs)
    (lo' hi' : Nat) (A : Option Addr) (ys : List α) (m c : Nat) (hx : a.eval x = .slice A m c) (hm : m = ys.length) (hsl : Sl enc sz w lo' hi' A ys)
    (hbound : (xs.length + ys.length) * bytes ≤ 140737488355328 ∧ xs.length + ys.length ≤ maxLen) (hlo : lo ≤ w.heap.size)
    (h : ∀ v' w', Own enc sz e w' lo v' (xs ++ ys) → w.grownBy w' v.ownBlock → Below lo w w' → K (a.put o.dst v') w') : o.wp P a w K Q := by
  subst hm
  obtain ⟨i, hi, hz, hsize, hby⟩ := info_parts hi
  have hB : ∀ {w'}, w.grownBy w' v.ownBlock → Below lo w w' := fun hg => (Below.refl lo w).grown hg hlo fun k hk => (hown.lt k hk).1
  by_cases hy : ys = []
  · subst hy
    have hrun : (Builtin.append_ #[t, t] o.type #[v, .slice A 0 c]).run P w = .ok v w := by
      rcases hown with ⟨rfl, h3⟩ | ⟨g, cap, cur, rfl, _, hh, hnc, _⟩
      · cases A <;> simp [Builtin.append_, run_underlying ht, sizeOf, typeInfo, hi, Builtin.lenOf, Builtin.firstCells, loadCells, loadCellsFrom]
      · cases A <;> simp [Builtin.append_, run_underlying ht, sizeOf, typeInfo, hi, Builtin.lenOf, Builtin.firstCells, loadCells, loadCellsFrom, hnc, storeCells]
    unfold Oper.wp execOp
    simp only [ho, resolve, invoke, builtin, Sem.run_bind, Sem.run_pure, Result.andThen_ok, List.map_toArray, List.map_cons, List.map_nil, hs, hx, List.length_nil, hrun]
    exact h v w (by simpa using hown) (World.grownBy.refl w _) (Below.refl _ _)
  · obtain ⟨b, off, rfl, _, _, hc⟩ := hsl hy
    have hnews : ∀ j u, (ys.flatMap enc)[j]? = some u → w.cell? ((⟨b, off, none⟩ : Addr).add j) = some u := by
      intro j u hu
      have hj : j < ys.length * sz := by rw [← flatMap_len hl ys]; exact (List.getElem?_eq_some_iff.1 hu).1
      have hk : j / sz < ys.length := Nat.div_lt_of_lt_mul (by rw [Nat.mul_comm]; exact hj)
      have hr : j % sz < sz := Nat.mod_lt _ hsz
      have hdm : j / sz * sz + j % sz = j := by rw [Nat.mul_comm]; exact Nat.div_add_mod j sz
      have hu' : (enc ys[j / sz])[j % sz]? = some ((enc ys[j / sz])[j % sz]'(by rw [hl]; exact hr)) := List.getElem?_eq_getElem _
      have h5 := flatMap_get hl ys (j / sz) ys[j / sz] (List.getElem?_eq_getElem hk) (j % sz) _ hu'
      rw [hdm, hu] at h5
      injection h5 with h5
      have h6 := hc (j / sz) ys[j / sz] (List.getElem?_eq_getElem hk) (j % sz) _ hu'
      rw [Nat.add_assoc, hdm, ← h5] at h6
      simpa [Addr.add] using (by by_cases hj0 : j = 0 <;> simp [hj0] at h6 ⊢ <;> exact h6)
    obtain ⟨v', w', hrun, h2, hg⟩ := run_app hl hsz h1c t o.type e i z bytes ht hi hz hsize hby hzs hown ⟨b, off, none⟩ ys c hnews hbound.2 hbound.1 hlo
    unfold Oper.wp execOp
    simp only [ho, resolve, invoke, builtin, Sem.run_bind, Sem.run_pure, Result.andThen_ok, List.map_toArray, List.map_cons, List.map_nil, hs, hx, hrun]
    exact h v' w' h2 hg (hB hg)

theorem wpList_app {α : Type} {enc : α → List Value} {sz : Nat} (hl : ∀ x, (enc x).length = sz) (hsz : 0 < sz) (h1c : ∀ x, ∀ u ∈ enc x, u.oneCell' = true)
    {ops : Array Oper} {rest : List Oper} {o : Oper} {a : Act} {w : World} {Q : Exit → Act → World → Prop} (hgd : o.guard = none) (s x : Operand) (t : TypeId)
    (ho : o.op = .call { callee := .builtin .append, args := #[s, x], argTypes := #[t, t] })
    (e : TypeId) (z : Value) (bytes : Nat) (ht : P.underlying t = some (.slice e)) (hi : (P.info? e).map (fun i => (i.zero, i.size, i.bytes)) = some (some z, sz, bytes)) (hzs : z.cells.size = sz)
    (lo : Nat) (v : Value) (xs : List α) (hs : a.eval s = v) (hown : Own enc sz e w lo v xs)
    (lo' hi' : Nat) (A : Option Addr) (ys : List α) (m c : Nat) (hx : a.eval x = .slice A m c) (hm : m = ys.length) (hsl : Sl enc sz w lo' hi' A ys)
    (hbound : (xs.length + ys.length) * bytes ≤ 140737488355328 ∧ xs.length + ys.length ≤ maxLen) (hlo : lo ≤ w.heap.size)
    (h : ∀ v' w', Own enc sz e w' lo v' (xs ++ ys) → w.grownBy w' v.ownBlock → Below lo w w' → wpList P ops Q rest (a.put o.dst v') w') : wpList P ops Q (o :: rest) a w :=
  wpList_plain hgd fun _ hK => wp_app hl hsz h1c s x t ho e z bytes ht hi hzs lo v xs hs hown lo' hi' A ys m c hx hm hsl hbound hlo fun v' w' h2 h3 h4 => hK _ _ (h v' w' h2 h3 h4)

/-- 'make([]T, n)' -/
theorem run_make_n (t e : TypeId) (i : TypeInfo) (z : Value) (ht : P.underlying t = some (.slice e)) (hi : P.info? e = some i) (hz : i.zero = some z)
    (kl kc : IntKind) (n : Nat) (hbytes : i.bytes * n ≤ 281474976710656) (h63 : n ≤ 9223372036854775807) (w : World) :
    (Instr.makeSlice t (.int kl (n : Int)) (.int kc (n : Int))).run P w = .ok (.slice (some ⟨w.heap.size, 0, none⟩) n n) (w.alloc (.cells (madeCells z.cells (n * i.size)) e)) := by
  have hb : (i.bytes : Int) * (n : Int) ≤ 281474976710656 := by
    have h : ((i.bytes * n : Nat) : Int) ≤ 281474976710656 := by omega
    rwa [Int.natCast_mul] at h
  have hr := run_make (P := P) w t e i z ht hi hz kl kc n n (by omega) (by omega) hb (by omega)
  simp only [Int.toNat_natCast] at hr
  exact hr
end

theorem madeCells_toList (z : Array Value) (hz : 0 < z.size) : ∀ n, (madeCells z (n * z.size)).toList = (List.replicate n z.toList).flatten
  | 0 => by simp [madeCells]
  | n + 1 => by
    have ih := madeCells_toList z hz n
    simp only [madeCells] at ih ⊢
    have hr : (Array.range ((n + 1) * z.size)).toList = (Array.range (n * z.size)).toList ++ (List.range z.size).map (n * z.size + ·) := by
      simp only [Array.toList_range]
      rw [Nat.add_mul, Nat.one_mul, List.range_add]
    simp only [Array.toList_map] at ih ⊢
    rw [hr, List.map_append, ih, List.replicate_succ', List.flatten_append, List.map_map]
    congr 1
    simp only [List.flatten_cons, List.flatten_nil, List.append_nil]
    apply List.ext_getElem
    · simp
    · intro j h1 h2
      simp only [List.length_map, List.length_range] at h1
      have e1 : (n * z.size + j) % z.size = j := by
        rw [Nat.add_comm, Nat.add_mul_mod_self_right, Nat.mod_eq_of_lt h1]
      simp [e1, h1]

theorem own_made {α : Type} {enc : α → List Value} {sz : Nat} (hl : ∀ x, (enc x).length = sz) (hsz : 0 < sz) (e : TypeId) (w : World) (lo : Nat) (n : Nat) (x : α) (z : Value) (hz : z.cells.toList = enc x)
    (hlo : lo ≤ w.heap.size) (hn : n ≤ maxLen) : Own enc sz e (w.alloc (.cells (madeCells z.cells (n * sz)) e)) lo (.slice (some ⟨w.heap.size, 0, none⟩) n n) (List.replicate n x) := by
  have hzs : z.cells.size = sz := by rw [← Array.length_toList, hz, hl]
  have h := Own.of_row (enc := enc) (sz := sz) (e := e) (w := w.alloc (.cells (madeCells z.cells (n * sz)) e)) (lo := lo) (g := w.heap.size) (c := n) (xs := List.replicate n x) (cur := madeCells z.cells (n * sz)) hlo (heap_alloc_new w _) (by simp) hn
    (by rw [size_madeCells]; omega) (by
      rw [List.length_replicate, List.take_of_length_le (by rw [Array.length_toList, size_madeCells]; omega)]
      have := madeCells_toList z.cells (by omega) n
      rw [hzs] at this
      rw [this, hz, List.flatMap_def, List.map_replicate])
  simpa using h
end Go.Proofs.YtajmfonepnkofaaDoor
namespace Go.Proofs.YtajmfonepnkofaaDoor
open Go.RowKit Rg
set_option linter.unusedVariables false
set_option linter.unusedSimpArgs false

theorem hide {p : Prop} (h : p) : Hid p := h
def inB (n lo hi : Int) : Bool := decide (lo ≤ n ∧ n ≤ hi)
theorem in_c (n lo hi : Int) (w : World) : Calls Tryd.prog 54 #[.int .i64 n, .int .i64 lo, .int .i64 hi] w fun e w' => e = .returned (.bool (inB n lo hi)) ∧ w = w' := by
  by_cases h1 : lo ≤ n
  · by_cases h2 : n ≤ hi
    · go_enter Tryd.func54, Tryd.ntmps54
      go_wp2
      go_ret
      exact ⟨by simp [inB, h1, h2], rfl⟩
    · go_enter Tryd.func54, Tryd.ntmps54
      go_wp2
      go_ret
      exact ⟨by simp [inB, h2], rfl⟩
  · go_enter Tryd.func54, Tryd.ntmps54
    go_wp2
    go_ret
    exact ⟨by simp [inB]; omega, rfl⟩
theorem l1In_c (n lo hi : Int) (w : World) : Calls Tryd.prog 20 #[.int .i64 n, .int .i64 lo, .int .i64 hi] w fun e w' => e = .returned (.bool (inB n lo hi)) ∧ w = w' := by
  by_cases h1 : lo ≤ n
  · by_cases h2 : n ≤ hi
    · go_enter Tryd.func20, Tryd.ntmps20
      go_wp2
      go_ret
      exact ⟨by simp [inB, h1, h2], rfl⟩
    · go_enter Tryd.func20, Tryd.ntmps20
      go_wp2
      go_ret
      exact ⟨by simp [inB, h2], rfl⟩
  · go_enter Tryd.func20, Tryd.ntmps20
    go_wp2
    go_ret
    exact ⟨by simp [inB]; omega, rfl⟩

theorem take_set_replicate {α : Type} (xs : List α) (z : α) (k n : Nat) (hn : n = xs.length) (hk : k < n) : (xs.take k ++ List.replicate (n - k) z).set k (xs[k]'(by omega)) = xs.take (k + 1) ++ List.replicate (n - (k + 1)) z := by
  subst hn
  have h1 : (xs.take k).length = k := by simp; omega
  rw [List.set_append_right _ _ (by omega), h1, Nat.sub_self, show xs.length - k = (xs.length - (k + 1)) + 1 by omega, List.replicate_succ, List.set_cons_zero,
    List.take_succ_eq_append_getElem hk, List.append_assoc]
  rfl
theorem take_eq_succ {α : Type} (xs ys : List α) (k : Nat) (hx : k < xs.length) (hy : k < ys.length) (h : xs.take k = ys.take k) (he : xs[k] = ys[k]) : xs.take (k + 1) = ys.take (k + 1) := by
  rw [List.take_succ_eq_append_getElem hx, List.take_succ_eq_append_getElem hy, h, he]

theorem own_empty {α : Type} (enc : α → List Value) (sz : Nat) (e : TypeId) (w : World) : Own enc sz e (w.alloc (.cells #[] e)) w.heap.size (.slice (some ⟨w.heap.size, 0, none⟩) 0 0) [] :=
  Own.of_row (xs := []) (cur := #[]) (Nat.le_refl _) (heap_alloc_new w _) (by simp) (by simp [maxLen]) (by simp) (by simp)

/-- Nothing below B is written but block g. -/
structure Only (B : Nat) (g : Option Nat) (w w' : World) : Prop where
  os : w'.os = w.os
  tape : w'.tape = w.tape
  output : w'.output = w.output
  size : w.heap.size ≤ w'.heap.size
  block : ∀ k, k < B → g ≠ some k → w'.heap[k]? = w.heap[k]?

section
variable {B B' : Nat} {g : Option Nat} {a w w' : World}
theorem Only.refl (B : Nat) (g : Option Nat) (w : World) : Only B g w w := ⟨rfl, rfl, rfl, Nat.le_refl _, fun _ _ _ => rfl⟩
theorem Only.trans (h : Only B g a w) (k : Only B g w w') : Only B g a w' := ⟨k.os.trans h.os, k.tape.trans h.tape, k.output.trans h.output, Nat.le_trans h.size k.size, fun j hj hne => (k.block j hj hne).trans (h.block j hj hne)⟩
theorem Only.of_below (h : Below B w w') : Only B g w w' := ⟨h.os, h.tape, h.output, h.size, fun k hk _ => h.block k hk⟩
theorem Only.mono (h : Only B g w w') (hB : B' ≤ B) : Only B' g w w' := ⟨h.os, h.tape, h.output, h.size, fun k hk => h.block k (by omega)⟩
theorem Only.of_grown (h : w.grownBy w' g) : Only w.heap.size g w w' := ⟨h.os, h.tape, h.output, h.size, fun k hk hne => h.block k hk (fun e => hne e.symm)⟩
theorem Only.toBelow (h : Only B g w w') (hB : B' ≤ B) (hg : ∀ k, g = some k → B' ≤ k) : Below B' w w' := ⟨h.os, h.tape, h.output, h.size, fun k hk => h.block k (by omega) (fun e => by have := hg k e; omega)⟩
theorem Only.put {g : Nat} (us : List Value) : ∀ {w : World} {j : Nat}, Only B (some g) a w → Only B (some g) a (putCells w g j us) := by
  induction us with
  | nil => intro w j h; exact h
  | cons u us ih =>
    intro w j h
    exact ih (h.trans ⟨rfl, rfl, rfl, by simp [World.setCell], fun k _ hne => Below.heap_setCell w ⟨g, j, none⟩ u k (fun e => hne (by rw [e]))⟩)
theorem Only.alloc (h : Only B g a w) (hB : B ≤ w.heap.size) (o : Obj) : Only B g a (w.alloc o) := h.trans (Only.of_below ((Below.refl B w).alloc hB o))
theorem Only.allocs {a w : World} {g : Option Nat} (h : Only a.heap.size g a w) (o : Obj) : Only a.heap.size g a (w.alloc o) := h.alloc h.size o
theorem Only.drew (h : Only B g a w) : Only B g a w.drew := ⟨h.os, h.tape, h.output, h.size, h.block⟩
theorem Own.only {α : Type} {enc : α → List Value} {sz lo : Nat} {e : TypeId} {v : Value} {xs : List α} (h : Own enc sz e w lo v xs) (ho : Only B g w w') (hB : w.heap.size ≤ B) (hne : ∀ k, v.ownBlock = some k → g ≠ some k) : Own enc sz e w' lo v xs :=
  h.keep fun b hb => ho.block b (by have := (h.lt b hb).2; omega) (hne b hb)
end

theorem Only.keepc {g : Option Nat} {w w' : World} (h : Only w.heap.size g w w') {p : Addr} {v : Value} (hne : g ≠ some p.block) (hc : w.cell? p = some v) : w'.cell? p = some v :=
  (World.cell?_of_block (h.block p.block (lt_of_cell hc) hne)).trans hc

abbrev ReqV := Int × Int × Int × Int × Int
/-- Whether an ask is ok. -/
def okR (t : ReqV) : Bool := inB t.1 1 4 && (inB t.2.1 1 30 && (if t.2.2.1 = 1 ∨ t.2.2.1 = 3 then (t.2.2.2.1 == 0 && t.2.2.2.2 == 0) else if t.2.2.1 = 2 then inB t.2.2.2.1 (-1) 1 && inB t.2.2.2.2 (-1) 1 else if t.2.2.1 = 4 then inB t.2.2.2.1 1 4 && (t.2.2.2.2 == 0) else if t.2.2.1 = 5 then inB t.2.2.2.1 1 4 && inB t.2.2.2.2 1 9 else false))
theorem isClient_c (n : Int) (w : World) : Calls Tryd.prog 58 #[.int .i64 n] w fun e w' => e = .returned (.bool (inB n 1 4)) ∧ w = w' := by
  go_enter Tryd.func58, Tryd.ntmps58
  go_wp2_with (go_at_call 54; refine (in_c _ _ _ _).mono ?_; rintro e w' ⟨rfl, rfl⟩)
  go_ret
  exact ⟨rfl, rfl⟩
theorem isKeeper_c (n : Int) (w : World) : Calls Tryd.prog 29 #[.int .i64 n] w fun e w' => e = .returned (.bool (inB n 0 3)) ∧ w = w' := by
  go_enter Tryd.func29, Tryd.ntmps29
  go_wp2_with (go_at_call 54; refine (in_c _ _ _ _).mono ?_; rintro e w' ⟨rfl, rfl⟩)
  go_ret
  exact ⟨rfl, rfl⟩
end Go.Proofs.YtajmfonepnkofaaDoor
namespace Go.Proofs.YtajmfonepnkofaaDoor
open Go Go.RowKit Go.WideShapes Go.ChangeShapes Go.Deep

section
variable {H : Type} {enc : TypeId × Value → H} {P : Program} {w : World} {base : Nat} {spare : Nat → Bool} {held : Bool}
/-- A slice, its elements read by 'helem'. -/
theorem trod_sl {α : Type} {encA : α → List Value} {sz : Nat} {Good : α → Prop} {t e : TypeId} {fuel : Nat} {v : Value} {x : DataW H × List MemPlace} (ht : P.underlying t = some (.slice e)) (hC : P.cellsOf e = sz) (hsz : 0 < sz) (hl : ∀ a, (encA a).length = sz)
    (h : DataW.trod enc P w base spare held fuel t [v] = some x)
    (helem : ∀ (n : Nat) (cs : List Value) (y : DataW H × List MemPlace), DataW.trod enc P w base spare held n e cs = some y → ∃ a : α, cs = encA a ∧ Good a) :
    ∃ A len cap, ∃ xs : List α, v = .slice A len cap ∧ len = xs.length ∧ len ≤ cap ∧ cap ≤ maxLen ∧ Sl encA sz w 0 w.heap.size A xs ∧ ∀ x ∈ xs, Good x := by
  rcases open_slice ht h with ⟨hcs, _⟩ | ⟨a, len, cap, m, n, D, Pl, hcs, hb, hl1, hm, hmm, hx, hi⟩
  · injection hcs with hv
    exact ⟨none, 0, 0, [], hv, rfl, Nat.le_refl _, by simp [maxLen], Sl.nil_, by simp⟩
  · injection hcs with hv
    have hlm : len ≤ m := by rw [hmm]; split <;> omega
    have hall : ∀ i, i < len → ∃ y : α, (∀ j u, (encA y)[j]? = some u → w.cell? ((a.add (i * sz)).add j) = some u) ∧ Good y := by
      intro i hil
      obtain ⟨cs', hc, ht'⟩ := hi i (by omega)
      rw [hC] at hc
      obtain ⟨_, hcl, hat⟩ := World.cells?_some hc
      obtain ⟨y, hy, hg⟩ := helem n cs' _ ht'
      refine ⟨y, fun j u hu => ?_, hg⟩
      have hj : j < sz := by rw [← hl y]; exact (List.getElem?_eq_some_iff.1 hu).1
      rw [hat j hj, hy]
      exact hu
    have hlist : ∀ k, k ≤ len → ∃ xs : List α, xs.length = k ∧ (∀ i y, xs[i]? = some y → ∀ j u, (encA y)[j]? = some u → w.cell? ((a.add (i * sz)).add j) = some u) ∧ ∀ y ∈ xs, Good y := by
      intro k
      induction k with
      | zero => intro _; exact ⟨[], rfl, by simp, by simp⟩
      | succ k ih =>
        intro hk
        obtain ⟨xs, hxl, hx1, hx2⟩ := ih (by omega)
        obtain ⟨y, hy1, hy2⟩ := hall k (by omega)
        refine ⟨xs ++ [y], by simp [hxl], fun i z hz => ?_, fun z hz => ?_⟩
        · by_cases hik : i < k
          · rw [List.getElem?_append_left (by omega)] at hz
            exact hx1 i z hz
          · rw [List.getElem?_append_right (by omega), hxl] at hz
            have h0 : i - k < [y].length := (List.getElem?_eq_some_iff.1 hz).1
            have e1 : i = k := by simp at h0; omega
            subst e1
            simp at hz
            subst hz
            exact hy1
        · rcases List.mem_append.1 hz with hz | hz
          · exact hx2 z hz
          · simp at hz; subst hz; exact hy2
    obtain ⟨xs, hxl, hx1, hx2⟩ := hlist len (Nat.le_refl _)
    refine ⟨some a, len, cap, xs, hv, hxl.symm, hl1, hm, fun hne => ?_, hx2⟩
    obtain ⟨y, ys, hxy⟩ := List.exists_cons_of_ne_nil hne
    have hpos : 0 < sz := hsz
    have h0 : (encA y)[0]? = some ((encA y)[0]'(by rw [hl]; exact hpos)) := List.getElem?_eq_getElem _
    have hc0 := hx1 0 y (by rw [hxy]; rfl) 0 _ h0
    obtain ⟨b, off, spot⟩ := a
    have hspot : spot = none := by
      have := World.cell?_spot hc0
      unfold Addr.add at this
      split at this <;> split at this <;> simp_all
    subst hspot
    have hadd : ∀ i j : Nat, ((⟨b, off, none⟩ : Addr).add i).add j = ⟨b, off + i + j, none⟩ := by
      intro i j
      unfold Addr.add
      by_cases hi0 : i = 0 <;> by_cases hj0 : j = 0 <;> simp [hi0, hj0]
    refine ⟨b, off, rfl, Nat.zero_le _, ?_, fun i x hx j u hu => ?_⟩
    · have := hc0
      rw [hadd] at this
      rcases Nat.lt_or_ge b w.heap.size with h1 | h1
      · exact h1
      · simp [World.cell?, Array.getElem?_eq_none h1] at this
    · have := hx1 i x hx j u hu
      rw [hadd] at this
      exact this

/-- A struct of three integers. -/
theorem trod_int3 {t ti : TypeId} {fs : Array Field} {fuel : Nat} {cs : List Value} {x : DataW H × List MemPlace} (ht : P.underlying t = some (.struct fs)) (hti : P.underlying ti = some (.int .i64)) (hfs : fs.size = 3) (hty : (fs.all fun f => f.type == ti) = true) (hone : oneCellFields P fs = true) (hC : P.cellsOf t = 3)
    (h : DataW.trod enc P w base spare held fuel t cs = some x) : ∃ a : Int × Int × Int, cs = [.int .i64 a.1, .int .i64 a.2.1, .int .i64 a.2.2] ∧ True := by
  obtain ⟨ys, n, _, _, hlen, _, hf⟩ := DataW.trod_struct ht h
  rw [hC] at hlen
  have key : ∀ (i : Nat) (hi : i < 3), ∃ k : Int, cs[i]'(by omega) = .int .i64 k := by
    intro i hi
    have hi' : i < fs.size := by omega
    have hfi : fs[i]? = some fs[i] := Array.getElem?_eq_getElem hi'
    obtain ⟨ho, hk⟩ := hone_of hone i fs[i] hfi
    have h1 := hf i fs[i] hfi
    have hty' : fs[i].type = ti := by
      have := Array.all_eq_true_iff_forall_mem.1 hty fs[i] (Array.getElem_mem hi')
      simpa using this
    rw [ho, hk, hty', List.drop_eq_getElem_cons (by omega)] at h1
    cases hy : ys[i]? with
    | none => have : i < ys.length := by omega
              rw [List.getElem?_eq_getElem this] at hy; cases hy
    | some y =>
      rw [hy] at h1
      obtain ⟨k, hk1, _⟩ := DataW.trod_int hti h1
      rw [List.take_succ_cons, List.take_zero] at hk1
      injection hk1 with hk1
      exact ⟨k, hk1⟩
  clear hf h
  match cs, hlen, key with
  | [c0, c1, c2], _, key =>
    obtain ⟨a, ha⟩ := key 0 (by omega)
    obtain ⟨b, hb⟩ := key 1 (by omega)
    obtain ⟨c, hc⟩ := key 2 (by omega)
    refine ⟨(a, b, c), ?_, trivial⟩
    have ha' : c0 = .int .i64 a := ha
    have hb' : c1 = .int .i64 b := hb
    have hc' : c2 = .int .i64 c := hc
    rw [ha', hb', hc']
end
end Go.Proofs.YtajmfonepnkofaaDoor
namespace Go.Proofs.YtajmfonepnkofaaDoor
open Go.RowKit Rg
set_option linter.unusedVariables false
set_option linter.unusedSimpArgs false

def encU (x : Int) : List Value := [.int .u8 x]
theorem encU_len : ∀ x, (encU x).length = 1 := fun _ => rfl
def encI (x : Int) : List Value := [.int .i64 x]
theorem encI_len : ∀ x, (encI x).length = 1 := fun _ => rfl
theorem encI_one : ∀ s, ∀ u ∈ encI s, u.oneCell' = true := by intro s u hu; simp [encI] at hu; subst hu; rfl
theorem Sl.u8 {w : World} {lo hi b off k : Nat} {xs : List Int} (h : Sl encU 1 w lo hi (some ⟨b, off, none⟩) xs) (hk : k < xs.length) : w.cell? ⟨b, off + k, none⟩ = some (.int .u8 xs[k]) := by
  have := h.at_ hk 0 (.int .u8 xs[k]) rfl
  simpa using this
theorem Sl.i64 {w : World} {lo hi b off k : Nat} {xs : List Int} (h : Sl encI 1 w lo hi (some ⟨b, off, none⟩) xs) (hk : k < xs.length) : w.cell? ⟨b, off + k, none⟩ = some (.int .i64 xs[k]) := by
  have := h.at_ hk 0 (.int .i64 xs[k]) rfl
  simpa using this

theorem u8_wf {k : Int} (h : (Lit.int .u8 k).wf = true) : 0 ≤ k ∧ k < 256 := by
  simp [Lit.wf, IntKind.min, IntKind.max, IntKind.signed, IntKind.bits] at h
  omega
/-- A row that was just made reads as its elements. -/
theorem sl_arr {α : Type} {enc : α → List Value} {sz : Nat} (hl : ∀ x, (enc x).length = sz) (w : World) (arr : Array Value) (e : TypeId) (xs : List α) (h : arr.toList = xs.flatMap enc) :
    Sl enc sz (w.alloc (.cells arr e)) w.heap.size (w.heap.size + 1) (some ⟨w.heap.size, 0, none⟩) xs := by
  intro _
  refine ⟨w.heap.size, 0, rfl, Nat.le_refl _, Nat.lt_succ_self _, fun i x hx j u hu => ?_⟩
  have h5 := flatMap_get hl xs i x hx j u hu
  rw [← h] at h5
  have h0 := heap_alloc_new w (.cells arr e)
  simp only [World.cell?, h0, Nat.zero_add]
  simpa using h5

/-- The reader: block g holds the code and a place, P at most. -/
def Rd (w : World) (g P : Nat) : Prop := ∃ (A : Option Addr) (n c p : Nat) (bs : List Int), w.heap[g]? = some (.cells #[.slice A n c, .int .i64 (p : Int)] 95) ∧ p ≤ P ∧ n = bs.length ∧ n ≤ 2000 ∧ n ≤ c ∧ c ≤ maxLen ∧ Sl encU 1 w 0 g A bs ∧ ∀ b ∈ bs, 0 ≤ b ∧ b < 256
theorem Rd.lt {w : World} {g P : Nat} (h : Rd w g P) : g < w.heap.size := by
  obtain ⟨A, n, c, p, bs, h1, _⟩ := h
  exact lt_of_heap h1
theorem Rd.mono {w : World} {g P P' : Nat} (h : Rd w g P) (hP : P ≤ P') : Rd w g P' := by
  obtain ⟨A, n, c, p, bs, h1, h2, h3⟩ := h
  exact ⟨A, n, c, p, bs, h1, by omega, h3⟩
theorem Rd.below {w w' : World} {g P B : Nat} (h : Rd w g P) (hb : Below B w w') (hB : g < B) : Rd w' g P := by
  obtain ⟨A, n, c, p, bs, h1, h2, h3, h4, h5, h6, h7, h8⟩ := h
  exact ⟨A, n, c, p, bs, (hb.block g hB).trans h1, h2, h3, h4, h5, h6, h7.below hb (by omega), h8⟩
theorem Rd.keep {w w' : World} {g P : Nat} (h : Rd w g P) (hb : Below w.heap.size w w') : Rd w' g P := h.below hb h.lt
theorem Rd.only {w w' : World} {g P : Nat} {k : Option Nat} (h : Rd w g P) (hb : Only w.heap.size k w w') (hk : ∀ j, k = some j → g < j) : Rd w' g P := by
  have hl := h.lt
  obtain ⟨A, n, c, p, bs, h1, h2, h3, h4, h5, h6, h7, h8⟩ := h
  refine ⟨A, n, c, p, bs, (hb.block g hl (fun e => by have := hk g e; omega)).trans h1, h2, h3, h4, h5, h6, h7.keep (fun b _ hb' => hb.block b (by omega) (fun e => by have := hk b e; omega)), h8⟩

theorem l20Open_c (A : Option Addr) (n c : Nat) (bs : List Int) (w : World) (hn : n = bs.length) (hc : n ≤ c) (hcm : c ≤ maxLen) (hs : Sl encU 1 w 0 w.heap.size A bs) (hb : ∀ b ∈ bs, 0 ≤ b ∧ b < 256) :
    Calls Tryd.prog 34 #[.slice A n c] w fun e w' => e = .returned (.pointer (some ⟨w.heap.size, 0, none⟩)) ∧ Rd w' w.heap.size 0 ∧ Below w.heap.size w w' := by
  have hn' := hide hn
  clear hn
  unfold maxLen at hcm
  by_cases h : 2000 < n
  · have d1 : decide (2000 < (n : Int)) = true := by simp; omega
    obtain ⟨b, off, rfl, hlo, hbh⟩ := hs.addr (k := 0) (by have := hn'.out; omega)
    go_enter Tryd.func34, Tryd.ntmps34
    go_wp2
    go_ret
    refine ⟨rfl, ⟨_, _, _, 0, bs.take 2000, heap_alloc_new w _, Nat.le_refl _, by have := hn'.out; simp; omega, Nat.le_refl _, by omega, by unfold maxLen; omega, (hs.take_ 2000).below ((Below.refl _ _).alloc (Nat.le_refl _) _) (Nat.le_refl _), fun b hb' => hb b (List.mem_of_mem_take hb')⟩, (Below.refl _ _).alloc (Nat.le_refl _) _⟩
  · have d1 : decide (2000 < (n : Int)) = false := by simp; omega
    go_enter Tryd.func34, Tryd.ntmps34
    go_wp2
    go_ret
    refine ⟨rfl, ⟨_, _, _, 0, bs, heap_alloc_new w _, Nat.le_refl _, hn'.out, by omega, by omega, by unfold maxLen; omega, hs.below ((Below.refl _ _).alloc (Nat.le_refl _) _) (Nat.le_refl _), hb⟩, (Below.refl _ _).alloc (Nat.le_refl _) _⟩

theorem wrap_i64_small (n : Nat) (h : n < 9223372036854775808) : IntKind.i64.wrap (n : Int) = (n : Int) := by
  have e : (n : Int) % 18446744073709551616 = (n : Int) := by omega
  show (if true && decide ((n : Int) % 18446744073709551616 ≥ 9223372036854775808) then (n : Int) % 18446744073709551616 - 18446744073709551616 else (n : Int) % 18446744073709551616) = (n : Int)
  rw [e, if_neg (by simp; omega)]
theorem xor_i64 (X Y : Int) (hX : 0 ≤ X) (hX2 : X < 4611686018427387904) (hY : 0 ≤ Y) (hY2 : Y < 4611686018427387904) : bits .xor .i64 X Y = ((X.toNat ^^^ Y.toNat : Nat) : Int) := by
  obtain ⟨a, rfl⟩ := Int.eq_ofNat_of_zero_le hX
  obtain ⟨b, rfl⟩ := Int.eq_ofNat_of_zero_le hY
  have hx : a ^^^ b < 2 ^ 62 := Nat.xor_lt_two_pow (by omega) (by omega)
  have h1 : (BitVec.ofInt 64 (a : Int)).toNat = a := by
    rw [BitVec.ofInt_natCast, BitVec.toNat_ofNat]; exact Nat.mod_eq_of_lt (by omega)
  have h2 : (BitVec.ofInt 64 (b : Int)).toNat = b := by
    rw [BitVec.ofInt_natCast, BitVec.toNat_ofNat]; exact Nat.mod_eq_of_lt (by omega)
  show IntKind.i64.wrap ((BitVec.ofInt 64 (a : Int) ^^^ BitVec.ofInt 64 (b : Int)).toNat : Int) = _
  rw [BitVec.toNat_xor, h1, h2, wrap_i64_small _ (by omega)]
  rfl
/-- What 'pick' may answer. -/
def PickR (n : Int) (k : Nat) : Prop := (0 < n → (k : Int) < n) ∧ (¬ 0 < n → k = 0)
set_option maxHeartbeats 2000000 in
theorem pick_c (g P : Nat) (n : Int) (w : World) (hr : Rd w g P) (hP : P ≤ 1000000) (hn : n ≤ 1000000000) :
    Calls Tryd.prog 36 #[.pointer (some ⟨g, 0, none⟩), .int .i64 n] w fun e w' => ∃ k : Nat, e = .returned (.int .i64 (k : Int)) ∧ PickR n k ∧ Rd w' g (P + 1) ∧ Only w.heap.size (some g) w w' := by
  have hlt := hr.lt
  obtain ⟨A, m, c, p, bs, h1, h2, h3, h4, h5, h6, h7, h8⟩ := hr
  have c0 : w.cell? ⟨g, 0, none⟩ = some (.slice A m c) := by simp [World.cell?, h1]
  have c1 : w.cell? ⟨g, 1, none⟩ = some (.int .i64 (p : Int)) := by simp [World.cell?, h1]
  have f1 : w.frozen? ⟨g, 1, none⟩ = false := by simp [World.frozen?, h1]
  have hon : Only w.heap.size (some g) w (w.setCell ⟨g, 1, none⟩ (.int .i64 ((p : Int) + 1))) := Only.put [.int .i64 ((p : Int) + 1)] (Only.refl _ _ _)
  have hrd : Rd (w.setCell ⟨g, 1, none⟩ (.int .i64 ((p : Int) + 1))) g (P + 1) := by
    obtain ⟨cur', k1, k2, k3⟩ := heap_putCells [.int .i64 ((p : Int) + 1)] w g 1 _ _ h1 (by simp)
    refine ⟨A, m, c, p + 1, bs, ?_, by omega, h3, h4, h5, h6, h7.keep (fun b _ hb => Below.heap_setCell w ⟨g, 1, none⟩ _ b (by simp; omega)), h8⟩
    have k4 : cur' = #[.slice A m c, .int .i64 ((p : Int) + 1)] := by
      apply Array.toList_inj.1
      rw [k3]
      rfl
    rw [k4] at k1
    exact k1
  have h3' := hide h3
  have hon' := hide hon
  have hrd' := hide hrd
  clear h3 hon hrd h1
  by_cases hn0 : n < 1
  · have d1 : decide (n < 1) = true := by simpa using hn0
    go_enter Tryd.func36, Tryd.ntmps36
    go_wp2
    go_ret
    exact ⟨0, rfl, ⟨fun h => by omega, fun _ => rfl⟩, hrd'.out, hon'.out⟩
  · have d1 : decide (n < 1) = false := by simpa using hn0
    obtain ⟨N, rfl⟩ : ∃ N : Nat, n = (N : Int) := ⟨n.toNat, by omega⟩
    have hN : 0 < N := by omega
    have q1 : (N : Int) ≠ 0 := by omega
    by_cases hm : m = 0
    · subst hm
      go_enter Tryd.func36, Tryd.ntmps36
      go_wp2
      go_ret
      exact ⟨0, rfl, ⟨fun h => by omega, fun _ => rfl⟩, hrd'.out, hon'.out⟩
    · have d2 : ((m : Int) == 0) = false := by simp; omega
      have e1 : (p : Int) + 1 - 1 = p := by omega
      have hx0 : 0 < bs.length := by have := h3'.out; omega
      obtain ⟨b, off, rfl, hlo, hbh⟩ := h7.addr hx0
      have hs' : Sl encU 1 (w.setCell ⟨g, 1, none⟩ (.int .i64 ((p : Int) + 1))) 0 g (some ⟨b, off, none⟩) bs := h7.keep (fun b _ hb => Below.heap_setCell w ⟨g, 1, none⟩ _ b (by simp; omega))
      by_cases hp : p < m
      · have hlx : p < bs.length := by have := h3'.out; omega
        have a1 := hs'.u8 hlx
        have hb := h8 bs[p] (List.getElem_mem _)
        have d3 : decide ((p : Int) < (m : Int)) = true := by simpa using hp
        go_enter Tryd.func36, Tryd.ntmps36
        go_wp2
        go_ret
        exact ⟨(bs[p] % (N : Int)).toNat, by rw [Int.toNat_of_nonneg (Int.emod_nonneg _ (by omega))]; rfl, ⟨fun _ => by rw [Int.toNat_of_nonneg (Int.emod_nonneg _ (by omega))]; exact Int.emod_lt_of_pos _ (by omega), fun h => absurd (by omega) h⟩, hrd'.out, hon'.out⟩
      · have d3 : decide ((p : Int) < (m : Int)) = false := by simpa using hp
        go_enter Tryd.func36, Tryd.ntmps36
        have g1 : p % m < bs.length := by have := h3'.out; have := Nat.mod_lt p (y := m) (by omega); omega
        have g2 : (p * 7 + 3) % m < bs.length := by have := h3'.out; have := Nat.mod_lt (p * 7 + 3) (y := m) (by omega); omega
        have a1 := hs'.u8 g1
        have a2 := hs'.u8 g2
        have hb1 := h8 _ (List.getElem_mem g1)
        have i1 : ((p : Int) % (m : Int)).toNat = p % m := by rw [← Int.natCast_emod]; rfl
        have i2 : (((p : Int) * 7 + 3) % (m : Int)).toNat = (p * 7 + 3) % m := by
          have : (((p : Int) * 7 + 3) % (m : Int)) = (((p * 7 + 3) % m : Nat) : Int) := by simp
          rw [this]; rfl
        have j1 : 0 ≤ (p : Int) % (m : Int) := Int.emod_nonneg _ (by omega)
        have j2 : (p : Int) % (m : Int) < (m : Int) := Int.emod_lt_of_pos _ (by omega)
        have j3 : 0 ≤ ((p : Int) * 7 + 3) % (m : Int) := Int.emod_nonneg _ (by omega)
        have j4 : ((p : Int) * 7 + 3) % (m : Int) < (m : Int) := Int.emod_lt_of_pos _ (by omega)
        have hb2 := h8 _ (List.getElem_mem g2)
        have j5 : 0 ≤ (p : Int) / (m : Int) := Int.ediv_nonneg (by omega) (by omega)
        have j6 : (p : Int) / (m : Int) ≤ 1000000 := Int.le_trans (Int.ediv_le_self _ (by omega)) (by omega)
        go_wp2
        go_quiet (fail)
        generalize hX : bs[p % m] * 131 + bs[(p * 7 + 3) % m] * 1117 + (p : Int) * 29 + (p : Int) / (m : Int) * 53 = X
        have x1 : 0 ≤ X := by omega
        have x2 : X ≤ 1000000000 := by omega
        clear hX j5 j6 j1 j2 j3 j4 i1 i2 a1 a2 hb1 hb2
        have hx := hide (xor_i64 X (X / 64) x1 (by omega) (by omega) (by omega))
        have hN' := hide hN
        go_wp2
        go_ret
        refine ⟨(X.toNat ^^^ (X / 64).toNat) % N, ?_, ⟨fun _ => ?_, fun h => absurd (by have := hN'.out; omega) h⟩, ?_, ?_⟩
        · show Ending.returned (.int .i64 ((bits .xor .i64 X (X / 64)).tmod (N : Int))) = _
          rw [hx.out, Int.tmod_eq_emod_of_nonneg (by omega)]
          rfl
        · have := Nat.mod_lt (X.toNat ^^^ (X / 64).toNat) hN'.out
          omega
        · obtain ⟨A', n', c', p', bs', t1, t2, t3, t4, t5, t6, t7, t8⟩ := hrd'.out
          exact ⟨A', n', c', p', bs', t1, t2, t3, t4, t5, t6, t7, t8⟩
        · exact hon'.out.trans (Only.of_below (below_drewN (Below.refl _ _) _))

theorem Sl.only {α : Type} {enc : α → List Value} {sz lo hi : Nat} {w w' : World} {A : Option Addr} {xs : List α} {g B : Nat} (h : Sl enc sz w lo hi A xs) (ho : Only B (some g) w w') (hg : g < lo) (hhi : hi ≤ B) : Sl enc sz w' lo hi A xs :=
  h.keep fun b h1 h2 => ho.block b (by omega) (fun e => by injection e with e; omega)
theorem one_c (g P lo hi : Nat) (A : Option Addr) (n c : Nat) (xs : List Int) (w : World) (hr : Rd w g P) (hP : P ≤ 1000000) (hn : n = xs.length) (h0 : 0 < n) (hb : n ≤ 1000) (hs : Sl encI 1 w lo hi A xs) (hlo : g < lo) (hhi : hi ≤ w.heap.size) :
    Calls Tryd.prog 61 #[.pointer (some ⟨g, 0, none⟩), .slice A n c] w fun e w' => ∃ x, x ∈ xs ∧ e = .returned (.int .i64 x) ∧ Rd w' g (P + 1) ∧ Only w.heap.size (some g) w w' := by
  have hn' := hide hn
  clear hn
  go_enter Tryd.func61, Tryd.ntmps61
  go_wp2_with fail
  refine (pick_c g P (n : Int) w hr hP (by omega)).mono ?_
  rintro e w1 ⟨k, rfl, hk, hr1, ho1⟩
  have hk1 : k < n := by have := hk.1 (by omega); omega
  have hkx : k < xs.length := by have := hn'.out; omega
  have hs1 := hs.only ho1 hlo hhi
  obtain ⟨b, off, rfl, hlo', hbh⟩ := hs1.addr hkx
  have a1 := hs1.i64 hkx
  have hm := hide (List.getElem_mem hkx)
  have hr1' := hide hr1
  have ho1' := hide ho1
  clear hr1 ho1 hk
  go_wp2
  go_ret
  exact ⟨xs[k], hm.out, rfl, hr1'.out, ho1'.out⟩
end Go.Proofs.YtajmfonepnkofaaDoor
namespace Go.Proofs.YtajmfonepnkofaaDoor
open Go.RowKit Rg
set_option linter.unusedVariables false
set_option linter.unusedSimpArgs false

abbrev EntT := Int × Int × Int × Int × Int
def encEnt (t : EntT) : List Value := [.int .i64 t.1, .int .i64 t.2.1, .int .i64 t.2.2.1, .int .i64 t.2.2.2.1, .int .i64 t.2.2.2.2]
theorem encEnt_len (t : EntT) : (encEnt t).length = 5 := rfl
theorem encEnt_one (t : EntT) : ∀ u ∈ encEnt t, u.oneCell' = true := by
  intro u hu; simp [encEnt] at hu; rcases hu with rfl | rfl | rfl | rfl | rfl <;> rfl
theorem Sl.getEnt {w : World} {lo hi b off k : Nat} {xs : List EntT} (h : Sl encEnt 5 w lo hi (some ⟨b, off, none⟩) xs) (hk : k < xs.length) :
    w.cell? ⟨b, off + k * 5, none⟩ = some (.int .i64 xs[k].1) ∧ w.cell? ⟨b, off + k * 5 + 1, none⟩ = some (.int .i64 xs[k].2.1) ∧ w.cell? ⟨b, off + k * 5 + 2, none⟩ = some (.int .i64 xs[k].2.2.1) ∧ w.cell? ⟨b, off + k * 5 + 3, none⟩ = some (.int .i64 xs[k].2.2.2.1) ∧ w.cell? ⟨b, off + k * 5 + 4, none⟩ = some (.int .i64 xs[k].2.2.2.2) :=
  ⟨h.at_ hk 0 _ rfl, h.at_ hk 1 _ rfl, h.at_ hk 2 _ rfl, h.at_ hk 3 _ rfl, h.at_ hk 4 _ rfl⟩
theorem infoEnt : (Tryd.prog.info? 82).map (fun i => (i.zero, i.size, i.bytes)) = some (some (.agg #[.int .i64 0, .int .i64 0, .int .i64 0, .int .i64 0, .int .i64 0]), 5, 40) := by kernel_rfl
theorem Own.someEnt {w : World} {lo g n c k : Nat} {e : TypeId} {xs : List EntT} (h : Own encEnt 5 e w lo (.slice (some ⟨g, 0, none⟩) n c) xs) (hk : k < n) :
    ∃ z0 z1 z2 z3 z4 : Int, w.cell? ⟨g, k * 5, none⟩ = some (.int .i64 z0) ∧ w.cell? ⟨g, k * 5 + 1, none⟩ = some (.int .i64 z1) ∧ w.cell? ⟨g, k * 5 + 2, none⟩ = some (.int .i64 z2) ∧ w.cell? ⟨g, k * 5 + 3, none⟩ = some (.int .i64 z3) ∧ w.cell? ⟨g, k * 5 + 4, none⟩ = some (.int .i64 z4) := by
  obtain ⟨rfl, _, hs⟩ := h.slAt encEnt_len
  have := hs.getEnt hk
  simp only [Nat.zero_add] at this
  exact ⟨_, _, _, _, _, this⟩

theorem toEnt_c (t : EntT) (w : World) : Calls Tryd.prog 53 #[.agg #[.int .i64 t.1, .int .i64 t.2.1, .int .i64 t.2.2.1, .int .i64 t.2.2.2.1, .int .i64 t.2.2.2.2]] w fun e w' => e = .returned (.agg #[.int .i64 t.1, .int .i64 t.2.1, .int .i64 t.2.2.1, .int .i64 t.2.2.2.1, .int .i64 t.2.2.2.2]) ∧ Below w.heap.size w w' := by
  go_enter Tryd.func53, Tryd.ntmps53
  go_wp2
  exact bodyPost_ret (v := .agg #[.int .i64 t.1, .int .i64 t.2.1, .int .i64 t.2.2.1, .int .i64 t.2.2.2.1, .int .i64 t.2.2.2.2]) (by simp [results, Tryd.results53, go_sem]) rfl ⟨rfl, by first | exact Below.refl _ _ | (refine Below.alloc ?_ (by simp <;> omega) _; first | exact Below.refl _ _ | (refine Below.alloc ?_ (by simp <;> omega) _; first | exact Below.refl _ _ | (refine Below.alloc ?_ (by simp <;> omega) _; exact Below.refl _ _)))⟩

theorem eqEnt_c (t u : EntT) (w : World) : Calls Tryd.prog 59 #[.agg #[.int .i64 t.1, .int .i64 t.2.1, .int .i64 t.2.2.1, .int .i64 t.2.2.2.1, .int .i64 t.2.2.2.2], .agg #[.int .i64 u.1, .int .i64 u.2.1, .int .i64 u.2.2.1, .int .i64 u.2.2.2.1, .int .i64 u.2.2.2.2]] w fun e w' => e = .returned (.bool (decide (t = u))) ∧ Below w.heap.size w w' := by
  have hz : decide (t = u) = (decide (t.1 = u.1) && decide (t.2.1 = u.2.1) && decide (t.2.2.1 = u.2.2.1) && decide (t.2.2.2.1 = u.2.2.2.1) && decide (t.2.2.2.2 = u.2.2.2.2)) := by
    rw [Bool.eq_iff_iff]
    simp only [Bool.and_eq_true, decide_eq_true_eq]
    exact ⟨fun h => by subst h; simp, fun h => Prod.ext h.1.1.1.1 (Prod.ext h.1.1.1.2 (Prod.ext h.1.1.2 (Prod.ext h.1.2 h.2)))⟩
  rw [hz]
  clear hz
  go_enter Tryd.func59, Tryd.ntmps59
  go_wp2
  all_goals
    go_ret
    simp only [bne_iff_ne, bne_eq_false_iff_eq, ne_eq] at *
    refine ⟨congrArg (fun b => Ending.returned (.bool b)) ?_, (((Below.refl _ _).alloc (Nat.le_refl _) _).alloc (by simp) _)⟩
    simp [*]

theorem toEntS_c (A : Option Addr) (n c lo hi : Nat) (xs : List EntT) (w : World) (hn : n = xs.length) (hb : n ≤ 1048576) (hs : Sl encEnt 5 w lo hi A xs) (hhi : hi ≤ w.heap.size) :
    Calls Tryd.prog 27 #[.slice A n c] w fun e w' => ∃ v, e = .returned v ∧ Own encEnt 5 82 w' w.heap.size v xs ∧ Below w.heap.size w w' := by
  have hmk := fun W => run_make_n (P := Tryd.prog) 33 82 (info_parts infoEnt).choose _ Tryd.underlying33 (info_parts infoEnt).choose_spec.1 (info_parts infoEnt).choose_spec.2.1 .i64 .i64 n (by rw [(info_parts infoEnt).choose_spec.2.2.2]; omega) (by omega) W
  rw [(info_parts infoEnt).choose_spec.2.2.1] at hmk
  have hown : Own encEnt 5 82 (w.alloc (.cells (madeCells (Value.agg #[.int .i64 0, .int .i64 0, .int .i64 0, .int .i64 0, .int .i64 0]).cells (n * 5)) 82)) w.heap.size (.slice (some ⟨w.heap.size, 0, none⟩) n n) (List.replicate n (0, 0, 0, 0, 0)) :=
    own_made encEnt_len (by omega) _ w _ n (0, 0, 0, 0, 0) (Value.agg #[.int .i64 0, .int .i64 0, .int .i64 0, .int .i64 0, .int .i64 0]) rfl (Nat.le_refl _) (by unfold maxLen; omega)
  have hbel : Below w.heap.size w (w.alloc (.cells (madeCells (Value.agg #[.int .i64 0, .int .i64 0, .int .i64 0, .int .i64 0, .int .i64 0]).cells (n * 5)) 82)) := (Below.refl _ _).alloc (Nat.le_refl _) _
  have hn' := hide hn
  clear hn
  go_enter Tryd.func27, Tryd.ntmps27
  go_wp2
  go_loopw [4] (fun i wr => ∃ k : Nat, k ≤ n ∧ i = .int .i64 k ∧ Own encEnt 5 82 wr w.heap.size (.slice (some ⟨w.heap.size, 0, none⟩) n n) (xs.take k ++ List.replicate (n - k) (0, 0, 0, 0, 0)) ∧ Below w.heap.size w wr) (fun i _ => n - (intOf i).toNat)
  case atStart => exact ⟨0, Nat.zero_le _, rfl, by rw [List.take_zero, List.nil_append, Nat.sub_zero]; exact hown, hbel⟩
  case round =>
    obtain ⟨k, hk, rfl, ho, hbr⟩ := hrel
    by_cases hlt : k < n
    · have hlx : k < xs.length := by have := hn'.out; omega
      obtain ⟨b, off, rfl, hlo, hbh⟩ := hs.addr hlx
      obtain ⟨a1, a2, a3, a4, a5⟩ := (hs.below hbr hhi).getEnt hlx
      go_wp2_with (go_at_call 53; refine (toEnt_c xs[k] _).mono ?_; rintro e w1 ⟨rfl, hb1⟩; have ho1 := ho.below hb1 (Nat.le_refl _); obtain ⟨u0, u1, u2, u3, u4, c0, c1, c2, c3, c4⟩ := ho1.someEnt hlt; have f0 := ho1.frozen (k * 5); have f1 := ho1.frozen (k * 5 + 1); have f2 := ho1.frozen (k * 5 + 2); have f3 := ho1.frozen (k * 5 + 3); have f4 := ho1.frozen (k * 5 + 4))
      go_roundw
      case rel =>
        refine ⟨k + 1, by omega, by go_num, ?_, ?_⟩
        · have := ho1.put_ encEnt_len hlt xs[k]
          rw [take_set_replicate xs _ k n hn'.out hlt] at this
          exact this
        · exact (((((hbr.trans (hb1.mono hbr.size)).setCell (by simp) _).setCell (by simp) _).setCell (by simp) _).setCell (by simp) _).setCell (by simp) _
      case measure => simp [intOf]; omega
    · obtain rfl : k = n := by omega
      go_wp2
      go_ret
      refine ⟨_, rfl, ?_, hbr⟩
      rw [Nat.sub_self, List.replicate_zero, List.append_nil, List.take_of_length_le (by rw [hn'.out]; omega)] at ho
      exact ho

theorem eqEntS_c (A B : Option Addr) (n m c d lo hi lo' hi' : Nat) (xs ys : List EntT) (w : World) (hn : n = xs.length) (hm : m = ys.length) (hb : n ≤ 1048576) (hb' : m ≤ 1048576) (hs : Sl encEnt 5 w lo hi A xs) (hs' : Sl encEnt 5 w lo' hi' B ys) (hhi : hi ≤ w.heap.size) (hhi' : hi' ≤ w.heap.size) :
    Calls Tryd.prog 32 #[.slice A n c, .slice B m d] w fun e w' => e = .returned (.bool (decide (xs = ys))) ∧ Below w.heap.size w w' := by
  have hn' := hide hn
  have hm' := hide hm
  by_cases hnm : n = m
  · have hxy : xs.length = ys.length := by omega
    have hxy' := hide hxy
    clear hn hm hxy
    subst hnm
    go_enter Tryd.func32, Tryd.ntmps32
    go_wp2
    go_loopw [5] (fun i wr => ∃ k : Nat, k ≤ n ∧ i = .int .i64 k ∧ Hid (xs.take k = ys.take k) ∧ Below w.heap.size w wr) (fun i _ => n - (intOf i).toNat)
    case atStart => exact ⟨0, Nat.zero_le _, rfl, rfl, Below.refl _ _⟩
    case round =>
      obtain ⟨k, hk, rfl, he, hbr⟩ := hrel
      by_cases hlt : k < n
      · have hlx : k < xs.length := by have := hn'.out; omega
        have hly : k < ys.length := by have := hm'.out; omega
        obtain ⟨b, off, rfl, hlo, hbh⟩ := hs.addr hlx
        obtain ⟨b', off', rfl, hlo', hbh'⟩ := hs'.addr hly
        obtain ⟨a1, a2, a3, a4, a5⟩ := (hs.below hbr hhi).getEnt hlx
        obtain ⟨b1, b2, b3, b4, b5⟩ := (hs'.below hbr hhi').getEnt hly
        go_wp2
        refine wp_region_T (fun _ => True) [] [] [] [0, 1, 2, 3, 4, 5, 6, 7, 8, 9] (by kernel_rfl) (by kernel_rfl) (by kernel_rfl) trivial ?_; simp only [pickL, List.getElem?_cons_succ, List.getElem?_cons_zero]
        go_wp2_with (first
          | ((with_reducible refine wpT_q0 ?_ ?_ ?_ ?_); (focus rfl); (focus rfl); (focus rfl); intro K hK) | ((with_reducible refine wpT_x0 ?_ ?_ ?_); (focus rfl); (focus rfl); intro K hK) | ((with_reducible refine wpT_noL ?_ ?_); (focus (first | exact wanted_no _ _ _ rfl rfl rfl | exact wanted_un _ _ _ rfl rfl rfl)); simp only [setO, List.set_cons_succ, List.set_cons_zero]) | ((with_reducible refine wpT_q1 ?_ ?_ ?_ ?_); (focus exact wanted_yes _ _ _ rfl rfl rfl); (focus rfl); (focus rfl); intro K hK) | ((with_reducible refine wpT_x1 ?_ ?_ ?_); (focus exact wanted_yes _ _ _ rfl rfl rfl); (focus rfl); intro K hK) | ((with_reducible refine wpT_nil ?_); try dsimp only)
          | (go_at_call 59; refine (eqEnt_c xs[k] ys[k] _).mono ?_; rintro e w1 ⟨rfl, hb1⟩))
        · rename_i hne
          go_ret
          refine ⟨congrArg (fun b => Ending.returned (.bool b)) ?_, hbr.trans ((Below.drew (Below.refl _ _)).trans (hb1.mono hbr.size))⟩
          have : ¬ xs = ys := fun h => by subst h; simp at hne
          simp [this]
        · go_roundw
          case rel =>
            refine ⟨k + 1, by omega, by go_num, ?_, hbr.trans ((Below.drew (Below.refl _ _)).trans (hb1.mono hbr.size))⟩
            refine take_eq_succ xs ys k hlx hly he.out ?_
            rename_i heq
            simpa using heq
          case measure => simp [intOf]; omega
      · obtain rfl : k = n := by omega
        go_wp2
        go_ret
        have e1 := he.out
        rw [List.take_of_length_le (by rw [hn'.out]; omega), List.take_of_length_le (by rw [hm'.out]; omega)] at e1
        exact ⟨by simp [e1], hbr⟩
  · have hne : ¬ xs = ys := fun h => by subst h; omega
    have hne' : ((n : Int) != (m : Int)) = true := by simp; omega
    clear hn hm
    go_enter Tryd.func32, Tryd.ntmps32
    go_wp2
    go_ret
    exact ⟨by simp [hne], Below.refl _ _⟩

/-- What 'markEntS' writes, from k on. -/
def marksEnt (k : Int) (n : Nat) : List EntT := (List.range n).map fun (i : Nat) => (k + 5 * (i : Int), k + 5 * (i : Int) + 1, k + 5 * (i : Int) + 2, k + 5 * (i : Int) + 3, k + 5 * (i : Int) + 4)
theorem marksEnt_len (k : Int) (n : Nat) : (marksEnt k n).length = n := by simp [marksEnt]
theorem marksEnt_get (k : Int) (n i : Nat) (h : i < (marksEnt k n).length) : (marksEnt k n)[i] = (k + 5 * (i : Int), k + 5 * (i : Int) + 1, k + 5 * (i : Int) + 2, k + 5 * (i : Int) + 3, k + 5 * (i : Int) + 4) := by simp [marksEnt]
theorem marksEnt_succ (k : Int) (n : Nat) : marksEnt k (n + 1) = marksEnt k n ++ [(k + 5 * (n : Int), k + 5 * (n : Int) + 1, k + 5 * (n : Int) + 2, k + 5 * (n : Int) + 3, k + 5 * (n : Int) + 4)] := by
  simp [marksEnt, List.range_succ]
theorem marksEnt_set (k : Int) (j : Nat) (xs : List EntT) (h : j < xs.length) : (marksEnt k j ++ xs.drop j).set j (k + 5 * (j : Int), k + 5 * (j : Int) + 1, k + 5 * (j : Int) + 2, k + 5 * (j : Int) + 3, k + 5 * (j : Int) + 4) = marksEnt k (j + 1) ++ xs.drop (j + 1) := by
  rw [List.set_append_right _ _ (by rw [marksEnt_len]; omega), marksEnt_len, Nat.sub_self, List.drop_eq_getElem_cons h, List.set_cons_zero, marksEnt_succ, List.append_assoc]
  rfl
theorem clone1Ent_c (A : Option Addr) (n c lo hi : Nat) (xs : List EntT) (w : World) (hn : n = xs.length) (hb : n ≤ 1048576) (hs : Sl encEnt 5 w lo hi A xs) (hhi : hi ≤ w.heap.size) :
    Calls Tryd.prog 86 #[.slice A n c] w fun e w' => ∃ v, e = .returned v ∧ Own encEnt 5 82 w' w.heap.size v xs ∧ Below w.heap.size w w' := by
  have hn' := hide hn
  clear hn
  cases A with
  | none =>
    have hx : xs = [] := by
      by_cases h : xs = []
      · exact h
      · obtain ⟨_, _, h1, _⟩ := hs h; cases h1
    subst hx
    obtain rfl : n = 0 := hn'.out
    have he := fun (w : World) (c : Nat) => Lib.run_eql_slice_nil (P := Tryd.prog) w 33 82 none 0 c 0 0 Tryd.underlying33
    go_enter Tryd.func86, Tryd.ntmps86
    go_wp2
    go_ret
    exact ⟨_, rfl, Own.nil_ _ _ _ _ _, Below.refl _ _⟩
  | some ad =>
    have he := fun (w : World) (c : Nat) => Lib.run_eql_slice_nil (P := Tryd.prog) w 33 82 (some ad) n c 0 0 Tryd.underlying33
    go_enter Tryd.func86, Tryd.ntmps86
    go_wp2_with (at_builtin; refine wpList_app encEnt_len (by omega) encEnt_one rfl _ _ 33 rfl 82 _ 40 Tryd.underlying33 infoEnt rfl w.heap.size _ [] rfl (own_empty encEnt 5 _ w) lo hi _ xs _ _ rfl hn'.out ?h1 ?h2 ?h3 ?_)
    case h1 => exact hs.below ((Below.refl hi w).alloc hhi _) (Nat.le_refl _)
    case h2 => have := hn'.out; simp [maxLen]; omega
    case h3 => simp
    intro v' w1 ho hg hb1
    go_wp2
    go_ret
    exact ⟨_, rfl, ho, (Below.refl _ _).trans (((Below.refl _ _).alloc (Nat.le_refl _) _).trans hb1)⟩

theorem clipEnt_c (A : Option Addr) (n c : Nat) (w : World) (h0 : n ≤ c) (h1 : c ≤ maxLen) (hA : A = none → n = 0) (hA2 : ∀ a, A = some a → ∃ g, a = ⟨g, 0, none⟩) :
    Calls Tryd.prog 85 #[.slice A n c] w fun e w' => e = .returned (.slice A n n) ∧ w = w' := by
  unfold maxLen at h1
  cases A with
  | none =>
    obtain rfl := hA rfl
    go_enter Tryd.func85, Tryd.ntmps85
    go_wp2
    go_ret
    exact ⟨rfl, rfl⟩
  | some a =>
    obtain ⟨g, rfl⟩ := hA2 a rfl
    clear hA hA2
    go_enter Tryd.func85, Tryd.ntmps85
    go_wp2
    go_ret
    exact ⟨rfl, rfl⟩

theorem cloneEnt_c (A : Option Addr) (n c lo hi : Nat) (xs : List EntT) (w : World) (hn : n = xs.length) (hb : n ≤ 1048576) (hs : Sl encEnt 5 w lo hi A xs) (hhi : hi ≤ w.heap.size) :
    Calls Tryd.prog 68 #[.slice A n c] w fun e w' => ∃ A', e = .returned (.slice A' n n) ∧ Own encEnt 5 82 w' w.heap.size (.slice A' n n) xs ∧ Below w.heap.size w w' := by
  have hn' := hide hn
  clear hn
  go_enter Tryd.func68, Tryd.ntmps68
  go_wp2_with fail
  refine (clone1Ent_c A n c lo hi xs w hn'.out hb hs hhi).mono ?_
  rintro e w1 ⟨v, rfl, ho, hb1⟩
  obtain ⟨A', c', rfl, h1, h2, h3⟩ := ho.form
  have hz := ho.clip
  rw [← hn'.out] at h1 hz ho ⊢
  have hcl := clipEnt_c A' n c' w1 h1 h2 (by
    rintro rfl
    rcases ho with ⟨h4, h5⟩ | ⟨g, cap, cur, he, _⟩
    · injection h4
    · injection he with he; cases he) (by
    intro a ha
    rcases h3 with h3 | ⟨g, h3, _⟩
    · rw [h3] at ha; cases ha
    · rw [h3] at ha; injection ha with ha; exact ⟨g, ha.symm⟩)
  clear h3 h1 h2
  go_wp2_with fail
  refine hcl.mono ?_
  rintro e w2 ⟨rfl, rfl⟩
  go_wp2
  go_ret
  exact ⟨A', rfl, hz, hb1⟩
end Go.Proofs.YtajmfonepnkofaaDoor
namespace Go.Proofs.YtajmfonepnkofaaDoor

/-- Figures, gold on the floor, the last asks. -/
abbrev GameT := List EntT × List Int × List Int
/-- An ask: whose, its number, what, x, y. -/
abbrev AskT := ReqV

def rng (n lo hi : Int) : Prop := lo ≤ n ∧ n ≤ hi
instance (n lo hi : Int) : Decidable (rng n lo hi) := by unfold rng; infer_instance
def goldS (es : List EntT) : Int := (es.map (·.2.2.2.2)).sum
def entOk (e : EntT) : Prop := rng e.1 1 4 ∧ rng e.2.1 0 3 ∧ rng e.2.2.1 0 3 ∧ rng e.2.2.2.1 0 3 ∧ rng e.2.2.2.2 0 20
instance (e : EntT) : Decidable (entOk e) := by unfold entOk; infer_instance
/-- A game that is ok. -/
structure okG (g : GameT) : Prop where
  ent : ∀ e ∈ g.1, entOk e
  inc : (g.1.map (·.1)).Pairwise (· < ·)
  flo : ∀ x ∈ g.2.1, rng x 0 20
  las : ∀ x ∈ g.2.2, rng x 0 30
  n16 : g.2.1.length = 16
  n4 : g.2.2.length = 4
  sum : goldS g.1 + g.2.1.sum = 20
/-- An ask that is ok. -/
def okA (r : AskT) : Prop := rng r.1 1 4 ∧ rng r.2.1 1 30 ∧
  ((r.2.2.1 = 1 ∨ r.2.2.1 = 3) ∧ r.2.2.2.1 = 0 ∧ r.2.2.2.2 = 0 ∨ r.2.2.1 = 2 ∧ rng r.2.2.2.1 (-1) 1 ∧ rng r.2.2.2.2 (-1) 1 ∨ r.2.2.1 = 4 ∧ rng r.2.2.2.1 1 4 ∧ r.2.2.2.2 = 0 ∨ r.2.2.1 = 5 ∧ rng r.2.2.2.1 1 4 ∧ rng r.2.2.2.2 1 9)
instance (r : AskT) : Decidable (okA r) := by unfold okA; infer_instance
def noA : AskT := (0, 0, 0, 0, 0)
def okNA (r : AskT) : Prop := r = noA ∨ okA r
instance (r : AskT) : Decidable (okNA r) := by unfold okNA; infer_instance

/-- The place of a player's figure. -/
def figI (es : List EntT) (c : Int) : Option Nat := es.findIdx? (fun e => decide (e.1 = c))
def nearE (a b : EntT) : Prop := rng (a.2.1 - b.2.1) (-1) 1 ∧ rng (a.2.2.1 - b.2.2.1) (-1) 1
instance (a b : EntT) : Decidable (nearE a b) := by unfold nearE; infer_instance
def sqr (e : EntT) : Nat := (e.2.2.1 * 4 + e.2.1).toNat
def entG (e : EntT) (d : Int) : EntT := (e.1, e.2.1, e.2.2.1, e.2.2.2.1, e.2.2.2.2 + d)
/-- Behind all figures of lower players. -/
def joinE (es : List EntT) (c : Int) : List EntT := es.takeWhile (fun e => decide (e.1 < c)) ++ (c, c - 1, c - 1, 3, 0) :: es.dropWhile (fun e => decide (e.1 < c))
def moveE (e : EntT) (r : AskT) : EntT := (e.1, e.2.1 + r.2.2.2.1, e.2.2.1 + r.2.2.2.2, e.2.2.2.1, e.2.2.2.2)
def hitE (e : EntT) : EntT := (e.1, e.2.1, e.2.2.1, e.2.2.2.1 - 1, e.2.2.2.2)
def ent0 : EntT := (0, 0, 0, 0, 0)
/-- What an ask does with another's figure 'n'. -/
def other (g : GameT) (k n : Nat) (r : AskT) : GameT × Int :=
  let e := g.1.getD k ent0
  let o := g.1.getD n ent0
  if n = k ∨ ¬ nearE e o then (g, 8)
  else if r.2.2.1 = 5 then
    if e.2.2.2.2 < r.2.2.2.2 then (g, 7) else (((g.1.set n (entG o r.2.2.2.2)).set k (entG e (- r.2.2.2.2)), g.2.1, g.2.2), 0)
  else if o.2.2.2.1 - 1 ≤ 0 then ((g.1.eraseIdx n, g.2.1.set (sqr o) (g.2.1.getD (sqr o) 0 + o.2.2.2.2), g.2.2), 0)
  else ((g.1.set n (hitE o), g.2.1, g.2.2), 0)
/-- What an ask does with a player's figure 'k'. -/
def actG (g : GameT) (k : Nat) (r : AskT) : GameT × Int :=
  let e := g.1.getD k ent0
  if r.2.2.1 = 2 then (if rng (e.2.1 + r.2.2.2.1) 0 3 ∧ rng (e.2.2.1 + r.2.2.2.2) 0 3 then ((g.1.set k (moveE e r), g.2.1, g.2.2), 0) else (g, 6))
  else if r.2.2.1 = 3 then (if g.2.1.getD (sqr e) 0 = 0 then (g, 7) else ((g.1.set k (entG e 1), g.2.1.set (sqr e) (g.2.1.getD (sqr e) 0 - 1), g.2.2), 0))
  else match figI g.1 r.2.2.2.1 with
    | none => (g, 8)
    | some n => other g k n r
def lastG (g : GameT) (r : AskT) : GameT := (g.1, g.2.1, g.2.2.set (r.1 - 1).toNat r.2.1)
def behG (g : GameT) (r : AskT) : GameT × Int :=
  match figI g.1 r.1 with
  | none => if r.2.2.1 = 1 then ((joinE g.1 r.1, g.2.1, g.2.2), 0) else (g, 5)
  | some k => if r.2.2.1 = 1 then (g, 4) else actG g k r
/-- What an ask does. -/
def doG (g : GameT) (r : AskT) : GameT × Int :=
  if r = noA then (g, 2) else if r.2.1 ≤ g.2.2.getD (r.1 - 1).toNat 0 then (g, 3) else behG (lastG g r) r
/-- Asks, one behind another. -/
def foldG (g : GameT) : List AskT → GameT
  | [] => g
  | r :: rs => foldG (doG g r).1 rs
theorem foldG_snoc (g : GameT) (rs : List AskT) (r : AskT) : foldG g (rs ++ [r]) = (doG (foldG g rs) r).1 := by
  induction rs generalizing g with
  | nil => rfl
  | cons x rs ih => exact ih _
theorem foldG_append (g : GameT) (rs ss : List AskT) : foldG g (rs ++ ss) = foldG (foldG g rs) ss := by
  induction rs generalizing g with
  | nil => rfl
  | cons x rs ih => exact ih _
/-- The new game: gold on the floor. -/
def newG : GameT := ([], [2, 1, 1, 1, 1, 2, 1, 1, 1, 1, 2, 1, 1, 1, 1, 2], [0, 0, 0, 0])

section sums
theorem sum_set : ∀ (l : List Int) (i : Nat) (v : Int), i < l.length → (l.set i v).sum = l.sum - l.getD i 0 + v
  | [], i, v, h => by simp at h
  | x :: l, 0, v, _ => by simp; omega
  | x :: l, i + 1, v, h => by
    have := sum_set l i v (by simpa using h)
    simp only [List.set_cons_succ, List.sum_cons, this, List.getD_cons_succ]; omega
theorem sum_erase : ∀ (l : List Int) (i : Nat), i < l.length → (l.eraseIdx i).sum = l.sum - l.getD i 0
  | [], i, h => by simp at h
  | x :: l, 0, _ => by simp; omega
  | x :: l, i + 1, h => by
    have := sum_erase l i (by simpa using h)
    simp only [List.eraseIdx_cons_succ, List.sum_cons, this, List.getD_cons_succ]; omega
theorem le_sum : ∀ (l : List Int), (∀ x ∈ l, 0 ≤ x) → 0 ≤ l.sum ∧ ∀ x ∈ l, x ≤ l.sum
  | [], _ => by simp
  | y :: l, h => by
    obtain ⟨h1, h2⟩ := le_sum l (fun x hx => h x (by simp [hx]))
    have hy := h y (by simp)
    refine ⟨by simp only [List.sum_cons]; omega, fun x hx => ?_⟩
    simp only [List.sum_cons]
    rcases List.mem_cons.1 hx with rfl | hx
    · omega
    · have := h2 x hx; omega
theorem getD_mem {α : Type} {l : List α} {i : Nat} {d : α} (h : i < l.length) : l.getD i d ∈ l := by
  simp [List.getD, List.getElem?_eq_getElem h]
theorem goldS_set (es : List EntT) (i : Nat) (e : EntT) (h : i < es.length) : goldS (es.set i e) = goldS es - (es.getD i ent0).2.2.2.2 + e.2.2.2.2 := by
  unfold goldS
  rw [List.map_set, sum_set _ _ _ (by simpa using h)]
  congr 2
  simp [List.getD, List.getElem?_eq_getElem h]
theorem map_erase {α β : Type} (f : α → β) : ∀ (l : List α) (i : Nat), (l.eraseIdx i).map f = (l.map f).eraseIdx i
  | [], _ => rfl
  | x :: l, 0 => rfl
  | x :: l, i + 1 => by simp only [List.eraseIdx_cons_succ, List.map_cons, map_erase f l i]
theorem goldS_erase (es : List EntT) (i : Nat) (h : i < es.length) : goldS (es.eraseIdx i) = goldS es - (es.getD i ent0).2.2.2.2 := by
  unfold goldS
  rw [map_erase, sum_erase _ _ (by simpa using h)]
  congr 1
  simp [List.getD, List.getElem?_eq_getElem h]
theorem goldS_join (es : List EntT) (c : Int) : goldS (joinE es c) = goldS es := by
  unfold goldS joinE
  have h := List.takeWhile_append_dropWhile (p := fun (e : EntT) => decide (e.1 < c)) (l := es)
  have h2 : (es.map (·.2.2.2.2)).sum = ((es.takeWhile (fun e => decide (e.1 < c))).map (·.2.2.2.2)).sum + ((es.dropWhile (fun e => decide (e.1 < c))).map (·.2.2.2.2)).sum := by
    rw [← List.sum_append, ← List.map_append, h]
  rw [h2]
  simp [List.sum_append]
end sums

/-- Without the upper bounds on gold. -/
structure okG' (g : GameT) : Prop where
  ent : ∀ e ∈ g.1, rng e.1 1 4 ∧ rng e.2.1 0 3 ∧ rng e.2.2.1 0 3 ∧ rng e.2.2.2.1 0 3 ∧ 0 ≤ e.2.2.2.2
  inc : (g.1.map (·.1)).Pairwise (· < ·)
  flo : ∀ x ∈ g.2.1, 0 ≤ x
  las : ∀ x ∈ g.2.2, rng x 0 30
  n16 : g.2.1.length = 16
  n4 : g.2.2.length = 4
  sum : goldS g.1 + g.2.1.sum = 20
theorem okG.weak {g : GameT} (h : okG g) : okG' g :=
  ⟨fun e he => by obtain ⟨h1, h2, h3, h4, h5⟩ := h.ent e he; exact ⟨h1, h2, h3, h4, h5.1⟩, h.inc, fun x hx => (h.flo x hx).1, h.las, h.n16, h.n4, h.sum⟩
theorem okG'.full {g : GameT} (h : okG' g) : okG g := by
  have h1 := le_sum g.2.1 h.flo
  have h2 := le_sum (g.1.map (·.2.2.2.2)) (fun x hx => by
    obtain ⟨e, he, rfl⟩ := List.mem_map.1 hx
    exact (h.ent e he).2.2.2.2)
  have hs := h.sum
  unfold goldS at hs
  refine ⟨fun e he => ?_, h.inc, fun x hx => ⟨h.flo x hx, ?_⟩, h.las, h.n16, h.n4, h.sum⟩
  · obtain ⟨a, b, c, d, f⟩ := h.ent e he
    have := h2.2 _ (List.mem_map.2 ⟨e, he, rfl⟩)
    exact ⟨a, b, c, d, f, by have := h1.1; omega⟩
  · have := h1.2 x hx; have := h2.1; omega

theorem set_clients (es : List EntT) (i : Nat) (e : EntT) (h : i < es.length) (he : e.1 = (es.getD i ent0).1) : (es.set i e).map (·.1) = es.map (·.1) := by
  rw [List.map_set]
  apply List.ext_getElem (by simp)
  intro j h1 h2
  rw [List.getElem_set]
  split
  · rename_i hij
    subst hij
    rw [he]; simp [List.getD, List.getElem?_eq_getElem h]
  · rfl
theorem inc_set {es : List EntT} (h : (es.map (·.1)).Pairwise (· < ·)) (i : Nat) (e : EntT) (hi : i < es.length) (he : e.1 = (es.getD i ent0).1) : ((es.set i e).map (·.1)).Pairwise (· < ·) := by
  rw [set_clients es i e hi he]; exact h
theorem set_mem {α : Type} {l : List α} {i : Nat} {v x : α} (h : x ∈ l.set i v) : x = v ∨ x ∈ l := by
  rcases List.mem_or_eq_of_mem_set h with h | h
  · exact .inr h
  · exact .inl h
theorem sqr_lt {e : EntT} (h1 : rng e.2.1 0 3) (h2 : rng e.2.2.1 0 3) : sqr e < 16 := by unfold sqr rng at *; omega
theorem figI_lt {es : List EntT} {c : Int} {k : Nat} (h : figI es c = some k) : k < es.length := by
  unfold figI at h
  obtain ⟨hk, _⟩ := List.findIdx?_eq_some_iff_getElem.1 h
  exact hk
theorem figI_none {es : List EntT} {c : Int} (h : figI es c = none) : ∀ e ∈ es, e.1 ≠ c := by
  unfold figI at h
  intro e he
  have := List.findIdx?_eq_none_iff.1 h e he
  simpa using this
theorem joinE_inc {es : List EntT} {c : Int} (hi : (es.map (·.1)).Pairwise (· < ·)) (hn : ∀ e ∈ es, e.1 ≠ c) : ((joinE es c).map (·.1)).Pairwise (· < ·) := by
  unfold joinE
  induction es with
  | nil => simp
  | cons x es ih =>
    rw [List.map_cons, List.pairwise_cons] at hi
    by_cases hx : x.1 < c
    · have e1 : (x :: es).takeWhile (fun e => decide (e.1 < c)) = x :: es.takeWhile (fun e => decide (e.1 < c)) := by simp [List.takeWhile_cons, hx]
      have e2 : (x :: es).dropWhile (fun e => decide (e.1 < c)) = es.dropWhile (fun e => decide (e.1 < c)) := by simp [List.dropWhile_cons, hx]
      rw [e1, e2, List.cons_append, List.map_cons, List.pairwise_cons]
      refine ⟨fun y hy => ?_, ih hi.2 (fun e he => hn e (by simp [he]))⟩
      obtain ⟨e, he, rfl⟩ := List.mem_map.1 hy
      rcases List.mem_append.1 he with he | he
      · exact hi.1 _ (List.mem_map.2 ⟨e, (List.takeWhile_sublist _).subset he, rfl⟩)
      · rcases List.mem_cons.1 he with rfl | he
        · exact hx
        · exact hi.1 _ (List.mem_map.2 ⟨e, (List.dropWhile_sublist _).subset he, rfl⟩)
    · have e1 : (x :: es).takeWhile (fun e => decide (e.1 < c)) = [] := by simp [List.takeWhile_cons, hx]
      have e2 : (x :: es).dropWhile (fun e => decide (e.1 < c)) = x :: es := by simp [List.dropWhile_cons, hx]
      have hxc := hn x (by simp)
      rw [e1, e2, List.nil_append, List.map_cons, List.map_cons, List.pairwise_cons, List.pairwise_cons]
      refine ⟨fun y hy => ?_, hi⟩
      rcases List.mem_cons.1 hy with rfl | hy
      · show c < x.1; omega
      · have := hi.1 y hy
        show c < y; omega
theorem okG'.acts {g : GameT} (h : okG' g) {k : Nat} (hk : k < g.1.length) {r : AskT} (hr : okA r) (h1 : r.2.2.1 ≠ 1) : okG' (actG g k r).1 := by
  have hek := h.ent _ (getD_mem (d := ent0) hk)
  have hflo : ∀ (e : EntT), rng e.2.1 0 3 → rng e.2.2.1 0 3 → sqr e < g.2.1.length := fun e a b => by rw [h.n16]; exact sqr_lt a b
  have hs := h.sum
  have hF : ∀ {e : EntT}, rng e.2.1 0 3 → rng e.2.2.1 0 3 → 0 ≤ g.2.1.getD (sqr e) 0 := fun a b => h.flo _ (getD_mem (hflo _ a b))
  have setE : ∀ (n : Nat) (e : EntT), n < g.1.length → e.1 = (g.1.getD n ent0).1 → rng e.2.1 0 3 → rng e.2.2.1 0 3 → rng e.2.2.2.1 0 3 → 0 ≤ e.2.2.2.2 → ∀ x ∈ g.1.set n e, rng x.1 1 4 ∧ rng x.2.1 0 3 ∧ rng x.2.2.1 0 3 ∧ rng x.2.2.2.1 0 3 ∧ 0 ≤ x.2.2.2.2 := by
    intro n e hn he a b c d x hx
    rcases set_mem hx with rfl | hx
    · exact ⟨by rw [he]; exact (h.ent _ (getD_mem hn)).1, a, b, c, d⟩
    · exact h.ent x hx
  unfold actG
  dsimp only
  split
  · split
    · rename_i hm
      refine ⟨setE k _ hk rfl hm.1 hm.2 hek.2.2.2.1 hek.2.2.2.2, inc_set h.inc _ _ hk rfl, h.flo, h.las, h.n16, h.n4, ?_⟩
      show goldS (g.1.set k (moveE (g.1.getD k ent0) r)) + g.2.1.sum = 20
      rw [goldS_set _ _ _ hk]
      unfold moveE; dsimp only; omega
    · exact h
  · split
    · split
      · exact h
      · rename_i hne
        have hlt := hflo _ hek.2.1 hek.2.2.1
        have hp := hF hek.2.1 hek.2.2.1
        refine ⟨setE k _ hk rfl hek.2.1 hek.2.2.1 hek.2.2.2.1 (by unfold entG; have := hek.2.2.2.2; show 0 ≤ _ + (1 : Int); omega), inc_set h.inc _ _ hk rfl, ?_, h.las, by simpa using h.n16, h.n4, ?_⟩
        · intro x hx
          rcases set_mem hx with rfl | hx
          · omega
          · exact h.flo x hx
        · show goldS (g.1.set k _) + (g.2.1.set _ _).sum = 20
          rw [goldS_set _ _ _ hk, sum_set _ _ _ hlt]
          unfold entG; dsimp only; omega
    · split
      · exact h
      · rename_i n hn
        have hnl := figI_lt hn
        have hen := h.ent _ (getD_mem (d := ent0) hnl)
        unfold other
        dsimp only
        split
        · exact h
        · rename_i hnk
          have hne : n ≠ k := fun e => hnk (.inl e)
          split
          · split
            · exact h
            · rename_i hop hge
              have hy : rng r.2.2.2.2 1 9 := by
                obtain ⟨_, _, hr⟩ := hr
                rcases hr with ⟨a, _⟩ | ⟨a, _⟩ | ⟨a, _⟩ | ⟨_, _, a⟩
                · omega
                · omega
                · omega
                · exact a
              have hk2 : k < (g.1.set n (entG (g.1.getD n ent0) r.2.2.2.2)).length := by simpa using hk
              have hgk : (g.1.set n (entG (g.1.getD n ent0) r.2.2.2.2)).getD k ent0 = g.1.getD k ent0 := by
                simp [List.getD, List.getElem?_set_ne hne]
              have hS := setE n (entG (g.1.getD n ent0) r.2.2.2.2) hnl rfl hen.2.1 hen.2.2.1 hen.2.2.2.1 (by unfold entG; dsimp only; have := hen.2.2.2.2; unfold rng at hy; omega)
              refine ⟨?_, ?_, h.flo, h.las, h.n16, h.n4, ?_⟩
              · intro x hx
                rcases set_mem hx with rfl | hx
                · exact ⟨hek.1, hek.2.1, hek.2.2.1, hek.2.2.2.1, by unfold entG; dsimp only; omega⟩
                · exact hS x hx
              · show (List.map _ ((g.1.set n _).set k _)).Pairwise _
                exact inc_set (inc_set h.inc n (entG (g.1.getD n ent0) r.2.2.2.2) hnl rfl) k _ hk2 (by rw [hgk]; rfl)
              · show goldS ((g.1.set n _).set k _) + _ = 20
                rw [goldS_set _ _ _ hk2, hgk, goldS_set _ _ _ hnl]
                unfold entG; dsimp only; omega
          · split
            · have hlt := hflo _ hen.2.1 hen.2.2.1
              have hp := hF hen.2.1 hen.2.2.1
              refine ⟨fun x hx => h.ent x ((List.eraseIdx_sublist _ _).subset hx), ?_, ?_, h.las, by simpa using h.n16, h.n4, ?_⟩
              · exact h.inc.sublist ((List.eraseIdx_sublist _ _).map _)
              · intro x hx
                rcases set_mem hx with rfl | hx
                · have := hen.2.2.2.2; omega
                · exact h.flo x hx
              · show goldS (g.1.eraseIdx n) + (g.2.1.set _ _).sum = 20
                rw [goldS_erase _ _ hnl, sum_set _ _ _ hlt]
                omega
            · rename_i hlife
              refine ⟨setE n _ hnl rfl hen.2.1 hen.2.2.1 ⟨by unfold hitE; dsimp only; omega, by unfold hitE; have := hen.2.2.2.1.2; dsimp only; omega⟩ hen.2.2.2.2, inc_set h.inc _ _ hnl rfl, h.flo, h.las, h.n16, h.n4, ?_⟩
              show goldS (g.1.set n _) + _ = 20
              rw [goldS_set _ _ _ hnl]
              unfold hitE; dsimp only; omega
theorem okG.doing {g : GameT} (h : okG g) {r : AskT} (hr : okNA r) : okG (doG g r).1 := by
  apply okG'.full
  have h := h.weak
  unfold doG
  split
  · exact h
  · rename_i hne
    have hr : okA r := hr.resolve_left hne
    split
    · exact h
    · have hl : okG' (lastG g r) := ⟨h.ent, h.inc, h.flo, by
        intro x hx
        rcases set_mem hx with rfl | hx
        · exact ⟨by have := hr.2.1.1; omega, hr.2.1.2⟩
        · exact h.las x hx, h.n16, by simpa [lastG] using h.n4, h.sum⟩
      unfold behG
      split
      · rename_i hnone
        split
        · refine ⟨?_, joinE_inc hl.inc (figI_none hnone), hl.flo, hl.las, hl.n16, hl.n4, ?_⟩
          · intro x hx
            unfold joinE at hx
            rcases List.mem_append.1 hx with hx | hx
            · exact hl.ent x ((List.takeWhile_sublist _).subset hx)
            · rcases List.mem_cons.1 hx with rfl | hx
              · obtain ⟨⟨a, b⟩, _⟩ := hr
                refine ⟨⟨a, b⟩, ?_, ?_, ?_, ?_⟩ <;> simp only [rng] <;> omega
              · exact hl.ent x ((List.dropWhile_sublist _).subset hx)
          · show goldS (joinE _ _) + _ = 20
            rw [goldS_join]; exact hl.sum
        · exact hl
      · rename_i k hk
        split
        · exact hl
        · rename_i hop
          exact hl.acts (figI_lt hk) hr hop
theorem newG_ok : okG newG := by
  refine ⟨by simp [newG], by simp [newG], ?_, ?_, rfl, rfl, by decide⟩
  · intro x hx; simp [newG] at hx; unfold rng; omega
  · intro x hx; simp [newG] at hx; unfold rng; omega
theorem okG.folding : ∀ {rs : List AskT} {g : GameT}, okG g → (∀ r ∈ rs, okNA r) → okG (foldG g rs)
  | [], g, h, _ => h
  | r :: rs, g, h, hr => okG.folding (g := (doG g r).1) (okG.doing h (hr r (List.mem_cons_self ..))) (fun x hx => hr x (List.mem_cons_of_mem _ hx))
end Go.Proofs.YtajmfonepnkofaaDoor
namespace Go.Proofs.YtajmfonepnkofaaDoor.Rg
open Go Go.RowKit
set_option linter.unusedVariables false
set_option linter.unusedSimpArgs false

theorem gives_idx {P : Program} {o : Oper} {a : Act} {w : World} {v : Value} {t : TypeId} {x ix : Operand} {A : Addr} {n c : Nat} {k : IntKind} {i : Int} (ho : o.op = .indexAddr t x ix) (hx : a.eval x = .slice (some A) n c) (hi : a.eval ix = .int k i) (hb : 0 ≤ i ∧ i < (n : Int)) (hg : Gives P o a w v) :
    ∀ w2, Gives P o a w2 v := by
  intro w2
  unfold Gives at *
  obtain ⟨dst, op', type, pos, after, guard⟩ := o
  simp only at ho
  subst ho
  simp only [execOp, hx, hi, Instr.indexAt, asIntOf, Sem.run_bind, Sem.run_pure, Result.andThen_ok] at hg ⊢
  cases hu : (underlying t).run P w with
  | halt y w1 => rw [hu] at hg; simp at hg
  | ok d w1 =>
    obtain ⟨rfl, h2⟩ := free_underlying P t w w2 d w1 hu
    rw [hu] at hg
    rw [h2]
    simp only [Result.andThen_ok] at hg ⊢
    cases d
    case slice e =>
      simp only [hu, h2, Sem.run_bind, Sem.run_pure, Result.andThen_ok, hb, if_true, and_self] at hg ⊢
      cases hs : (sizeOf e).run P w1 with
      | halt y w3 => rw [hs] at hg; simp at hg
      | ok m w3 =>
        obtain ⟨rfl, hs2⟩ := free_sizeOf P e w1 w2 m w3 hs
        rw [hs] at hg
        rw [hs2]
        simp only [Result.andThen_ok, Result.ok.injEq, Next.value.injEq] at hg ⊢
        exact ⟨hg.1, trivial⟩
    all_goals (simp [Instr.sureAddr] at hg)
/-- A place of a slice that may be found behind an effect. -/
def AtIdx (et : List Tmp) (o : Oper) (a : Act) : Prop := ∃ t x ix A n c k i, o.guard = none ∧ inT et o = false ∧ o.op = .indexAddr t x ix ∧ a.eval x = .slice (some A) n c ∧ a.eval ix = .int k i ∧ (0 ≤ i ∧ i < (n : Int))
theorem wpT_i {P : Program} {ops : Array Oper} {S : World → Prop} {et sl : List Tmp} {QT : Act → World → Prop} {o : Oper} {rest : List Oper} {a : Act} {w : World} (h0 : AtIdx et o a)
    (h : ∀ K : Act → World → Prop, (∀ a', wpT P ops S et sl QT rest a' w → K a' w) → o.wp P a w K Qf) : wpT P ops S et sl QT (o :: rest) a w := by
  obtain ⟨t, x, ix, A, n, c, k, i, hg, het, ho, hx, hi, hb⟩ := h0
  have h1 := h (fun a' w' => w' = w ∧ wpT P ops S et sl QT rest a' w') (fun a' h => ⟨rfl, h⟩)
  have he : isE et o = false := by simp [isE, isEop, ho, het]
  unfold Oper.wp at h1
  generalize hr : (execOp a.eval o).run P w = r at h1
  cases r with
  | ok n w' =>
    obtain ⟨v, rfl⟩ := exec_value he hr
    simp only [Oper.upon] at h1
    obtain ⟨rfl, h2⟩ := h1
    exact wpT_s v he hg hr (fun w2 _ => gives_idx ho hx hi hb hr w2) h2
  | halt y w' =>
    exfalso
    cases y <;> simp only [Oper.upon] at h1
    exact h1
end Go.Proofs.YtajmfonepnkofaaDoor.Rg
