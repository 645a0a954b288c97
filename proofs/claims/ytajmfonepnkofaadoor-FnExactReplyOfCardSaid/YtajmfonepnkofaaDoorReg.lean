/-
  A region that draws its order may be walked in ONE order, chosen by hand: a plain law over any program.
  Conditions: the chosen order is checked by a Bool ('okT'): whatever else may come up before an operation is apart from it, and an operation with an effect is taken only where nothing else may come up.
-/
import Derived.Orders
import Derived.Tactics
import Derived.BigFrame
import Derived.Below
namespace Go.Proofs.YtajmfonepnkofaaDoor.Rg
open Go Go.RowKit

/-- No end but the normal one. -/
def Qf : Exit → Act → World → Prop := fun _ _ _ => False

/-- Has the operation an effect? ('et': the temporaries of conversions that make memory.) -/
def isEop : Op → Bool
  | .move _ | .assign _ | .pick .. | .load .. | .binOp .. | .unOp .. | .fieldAddr .. | .field .. | .indexAddr .. | .index .. | .extract .. | .slice .. | .convert .. | .build .. | .lookup .. | .makeInterface .. | .nilCheck _ => false
  | .call { callee := .builtin .len, .. } | .call { callee := .builtin .cap, .. } => false
  | _ => true
def inT (l : List Tmp) (o : Oper) : Bool := match o.dst with | some d => l.contains d | none => false
def isE (et : List Tmp) (o : Oper) : Bool := isEop o.op || inT et o
/-- Operations that yield the same in every world ('zs': struct types all of whose fields have a size). -/
def cleanK (zs : List TypeId) : Op → Bool
  | .move _ | .assign _ | .pick .. | .extract .. => true
  | .fieldAddr s _ _ => zs.contains s
  | _ => false
def sizedB (P : Program) (zs : List TypeId) : Bool :=
  zs.all fun s => match P.underlying s with
    | some (.struct fs) => fs.all fun f => match P.info? f.type with | some i => i.size != 0 | none => false
    | _ => false

/-- What hangs on the program alone. -/
def Free {α : Type} (P : Program) (s : Sem α) : Prop := ∀ w w2 r w', s.run P w = .ok r w' → w' = w ∧ s.run P w2 = .ok r w2
theorem free_underlying (P : Program) (t : TypeId) : Free P (underlying t) := by
  intro w w2 r w' h
  unfold underlying at *
  simp only [Sem.run_bind, run_program, Result.andThen_ok] at h ⊢
  split at h <;> simp_all
theorem free_isAgg (P : Program) (t : TypeId) : Free P (isAgg t) := by
  intro w w2 r w' h
  unfold isAgg at *
  simp only [Sem.run_bind] at h ⊢
  cases hu : (underlying t).run P w with
  | halt x w1 => rw [hu] at h; simp at h
  | ok d w1 =>
    obtain ⟨rfl, h2⟩ := free_underlying P t w w2 d w1 hu
    rw [hu] at h
    rw [h2]
    simp only [Result.andThen_ok] at h ⊢
    split at h <;> simp_all
theorem free_sizeOf (P : Program) (t : TypeId) : Free P (sizeOf t) := by
  intro w w2 r w' h
  unfold sizeOf typeInfo at *
  simp only [Sem.run_bind, run_program, Result.andThen_ok] at h ⊢
  split at h <;> simp_all
theorem fieldAt_clean {P : Program} {zs : List TypeId} (hz : sizedB P zs = true) {s : TypeId} (hs : zs.contains s = true) {x v : Value} {i : Nat} {w w1 : World} (h : (Instr.fieldAt s x i).run P w = .ok v w1) (w2 : World) :
    w1 = w ∧ (Instr.fieldAt s x i).run P w2 = .ok v w2 := by
  have h1 := List.all_eq_true.1 hz s (by simpa using hs)
  cases hu : P.underlying s with
  | none => rw [hu] at h1; simp at h1
  | some d =>
    cases d with
    | struct fs =>
      rw [hu] at h1
      simp only at h1
      unfold Instr.fieldAt at *
      simp only [Sem.run_bind, run_underlying hu, Result.andThen_ok] at h ⊢
      cases hf : fs[i]? with
      | none => rw [hf] at h; simp at h
      | some f =>
        rw [hf] at h
        simp only [Sem.run_bind] at h ⊢
        have h2 := Array.all_eq_true_iff_forall_mem.1 h1 f (Array.mem_of_getElem? hf)
        cases hi : P.info? f.type with
        | none => rw [hi] at h2; simp at h2
        | some ti =>
          rw [hi] at h2
          have h3 : ti.size ≠ 0 := by simpa using h2
          cases x with
          | pointer a =>
            cases a with
            | none => simp [Instr.sureAddr] at h
            | some a =>
              simp [Instr.sureAddr, fieldPlace, sizeOf, typeInfo, hi, h3] at h ⊢
              exact ⟨h.2.symm, h.1⟩
          | _ => simp [Instr.sureAddr] at h
    | _ => rw [hu] at h1; simp at h1

section
variable {P : Program} {ops : Array Oper} {Q : Exit → Act → World → Prop} {S : World → Prop} {et sl : List Tmp} {md : Region.Mode}

/-- 'o' leaves 'v' and does nothing else. -/
def Gives (P : Program) (o : Oper) (a : Act) (w : World) (v : Value) : Prop := (execOp a.eval o).run P w = .ok (.value v) w

def opT (P : Program) (ops : Array Oper) (S : World → Prop) (et sl : List Tmp) (o : Oper) (K : Act → World → Prop) (a : Act) (w : World) : Prop :=
  if Region.wanted o (yielded ops a.tmps) then
    if isE et o then o.wp P a w (fun a' w' => S w' ∧ K a' w') Qf
    else ∃ v, Gives P o a w v ∧ (inT sl o = true → ∀ w2, S w2 → Gives P o a w2 v) ∧ K (a.put o.dst v) w
  else K (a.put o.dst undef) w

def wpT (P : Program) (ops : Array Oper) (S : World → Prop) (et sl : List Tmp) (Q : Act → World → Prop) : List Oper → Act → World → Prop
  | [], a, w => Q a w
  | o :: rest, a, w => opT P ops S et sl o (wpT P ops S et sl Q rest) a w

def opAt (P : Program) (ops : Array Oper) (S : World → Prop) (et sl : List Tmp) (i : Nat) (K : Act → World → Prop) (a : Act) (w : World) : Prop :=
  match ops[i]? with
  | none => False
  | some o => opT P ops S et sl o K a w

def wpAnyT (P : Program) (md : Region.Mode) (ops : Array Oper) (S : World → Prop) (et sl : List Tmp) (Q : Act → World → Prop) : Nat → Array Bool → Act → World → Prop
  | 0, listed, a, w => Region.ready md ops listed = [] ∧ Q a w
  | fuel + 1, listed, a, w =>
    (Region.ready md ops listed = [] → Q a w) ∧
    ∀ i ∈ Region.ready md ops listed, opAt P ops S et sl i (wpAnyT P md ops S et sl Q fuel (listed.setIfInBounds i true)) a w

theorem wp_Qf {o : Oper} {a : Act} {w : World} {K : Act → World → Prop} (h : o.wp P a w K Qf) : o.wp P a w K Q := by
  unfold Oper.wp at *
  generalize (execOp a.eval o).run P w = r at *
  cases r with
  | ok n w' =>
    cases n <;> simp only [Oper.upon] at h ⊢ <;>
      first
        | exact h
        | exact Calls.mono h (fun e w'' he => by
            cases e with
            | returned v => exact he
            | panicked c => exact he.elim
            | outgrown => obtain ⟨_, _, hx⟩ := he; exact hx.elim)
  | halt x w' => cases x <;> simp only [Oper.upon] at h ⊢ <;> exact h.elim

theorem opT_mono {o : Oper} {a : Act} {w : World} {K K' : Act → World → Prop} (h : ∀ a w, K a w → K' a w) (hh : opT P ops S et sl o K a w) : opT P ops S et sl o K' a w := by
  unfold opT at *
  split
  · rename_i hw
    rw [if_pos hw] at hh
    split
    · rename_i he; rw [if_pos he] at hh; exact Oper.wp_mono (fun a' w' ⟨h1, h2⟩ => ⟨h1, h _ _ h2⟩) hh
    · rename_i he; rw [if_neg he] at hh; obtain ⟨v, h1, h2, h3⟩ := hh; exact ⟨v, h1, h2, h _ _ h3⟩
  · rename_i hw; rw [if_neg hw] at hh; exact h _ _ hh

theorem wpAny_of_T {QT : Act → World → Prop} (hQ : ∀ a w, QT a w → Q .normal a w) : ∀ (fuel : Nat) (listed : Array Bool) (a : Act) (w : World),
    wpAnyT P md ops S et sl QT fuel listed a w → wpAny P md ops Q fuel listed a w
  | 0, _, _, _, h => ⟨h.1, hQ _ _ h.2⟩
  | fuel + 1, listed, a, w, h => ⟨fun h0 => hQ _ _ (h.1 h0), fun i hi => by
      have h2 := h.2 i hi
      unfold opAt at h2
      unfold wpOp
      cases ho : ops[i]? with
      | none => rw [ho] at h2; exact h2.elim
      | some o =>
        rw [ho] at h2
        simp only [opT] at h2 ⊢
        split
        · rename_i hw
          rw [if_pos hw] at h2
          refine .inl ?_
          by_cases he : isE et o = true
          · rw [if_pos he] at h2
            exact wp_Qf (Oper.wp_mono (fun a' w' h' => wpAny_of_T hQ fuel _ a' w' h'.2) h2)
          · rw [if_neg he] at h2
            obtain ⟨v, h3, _, h4⟩ := h2
            unfold Gives at h3
            unfold Oper.wp
            rw [h3]
            exact wpAny_of_T hQ fuel _ _ _ h4
        · rename_i hw
          rw [if_neg hw] at h2
          exact wpAny_of_T hQ fuel _ _ _ h2⟩

/-- What operation 'o' leaves in this state: its value (the same in every world that meets S, where it is slack), or nothing where it is not wanted. -/
def YT (P : Program) (ops : Array Oper) (S : World → Prop) (st : Bool) (o : Oper) (v : Value) (a : Act) (w : World) : Prop :=
  (Region.wanted o (yielded ops a.tmps) = true ∧ Gives P o a w v ∧ (st = true → ∀ w2, S w2 → Gives P o a w2 v)) ∨ (Region.wanted o (yielded ops a.tmps) = false ∧ v = undef)

theorem YT.of_same {o : Oper} {st : Bool} {v : Value} {a a' : Act} {w : World} (hy : YT P ops S st o v a w) (he : execOp a'.eval o = execOp a.eval o)
    (hw : Region.wanted o (yielded ops a'.tmps) = Region.wanted o (yielded ops a.tmps)) : YT P ops S st o v a' w := by
  unfold YT Gives at *
  rw [he, hw]
  exact hy

theorem YT.move {o : Oper} {v : Value} {a : Act} {w w' : World} (hy : YT P ops S true o v a w) (hS : S w') : YT P ops S true o v a w' := by
  rcases hy with ⟨h1, h2, h3⟩ | h
  · exact .inl ⟨h1, h3 rfl _ hS, h3⟩
  · exact .inr h

/-- 'i' is not an effect: what it leaves is put aside while 'j' is carried out. -/
theorem opT_put {oi oj : Oper} {st : Bool} {v : Value} (hap : oi.apart ops oj = true) (hsi : ∀ cs b, oi.op ≠ .select cs b) (hsj : ∀ cs b, oj.op ≠ .select cs b)
    (hst : isE et oj = true → st = true) {K : Act → World → Prop} {a : Act} {w : World}
    (hy : YT P ops S st oi v a w) (h : opT P ops S et sl oj K (a.put oi.dst v) w) (hS : S w) :
    opT P ops S et sl oj (fun a' w' => S w' ∧ YT P ops S st oi v a' w' ∧ K (a'.put oi.dst v) w') a w := by
  obtain ⟨h1, h2, h3⟩ := Oper.apart_spec hap
  have keep : ∀ (a : Act) (w : World), YT P ops S st oi v a w → ∀ u, YT P ops S st oi v (a.put oj.dst u) w := fun a w hy u =>
    hy.of_same (execOp_put oi hsi a oj.dst u h3) (wanted_put oi a oj.dst u h3)
  have keepD : ∀ (w : World) d, YT P ops S st oi v a w → YT P ops S st oi v { a with defers := d :: a.defers } w := fun w d hy => hy.of_same rfl rfl
  unfold opT at *
  rw [wanted_put oj a oi.dst v h1] at h
  split
  · rename_i hw
    rw [if_pos hw] at h
    split
    · rename_i he
      rw [if_pos he] at h
      have hs := hst he
      subst hs
      unfold Oper.wp at *
      rw [execOp_put oj hsj a oi.dst v h1] at h
      generalize (execOp a.eval oj).run P w = r at *
      cases r with
      | ok n w' =>
        cases n <;> simp only [Oper.upon] at h ⊢
        case value u => exact ⟨h.1, h.1, (keep a w hy u).move h.1, by rw [← Act.put_comm a v u h2]; exact h.2⟩
        case skip => exact ⟨h.1, h.1, (keep a w hy _).move h.1, by rw [← Act.put_comm a v undef h2]; exact h.2⟩
        case defer d =>
          refine ⟨h.1, h.1, (keep _ w (keepD w d hy) _).move h.1, ?_⟩
          rw [← Act.put_comm _ v undef h2, ← Act.put_defers]
          exact h.2
        case enter f args =>
          refine Calls.mono h fun e w'' he => ?_
          cases e with
          | returned u => exact ⟨he.1, he.1, (keep a w hy u).move he.1, by rw [← Act.put_comm a v u h2]; exact he.2⟩
          | panicked c => exact he
          | outgrown => exact he
        case row row args => exact Rows.mono h fun u w'' he => ⟨he.1, he.1, (keep a w hy u).move he.1, by rw [← Act.put_comm a v u h2]; exact he.2⟩
      | halt x w' =>
        cases x <;> simp only [Oper.upon] at h ⊢
        case panic u => exact h
    · rename_i he
      rw [if_neg he] at h
      obtain ⟨u, h4, h5, h6⟩ := h
      unfold Gives at h4 h5
      rw [execOp_put oj hsj a oi.dst v h1] at h4 h5
      exact ⟨u, h4, h5, hS, keep a w hy u, by rw [← Act.put_comm a v u h2]; exact h6⟩
  · rename_i hw
    rw [if_neg hw] at h
    exact ⟨hS, keep a w hy _, by rw [← Act.put_comm a v undef h2]; exact h⟩

theorem YT.opT {oi : Oper} {st : Bool} {v : Value} {a : Act} {w : World} (hE : isE et oi = false) (hst : inT sl oi = true → st = true) (hy : YT P ops S st oi v a w) {K : Act → World → Prop} (h : K (a.put oi.dst v) w) :
    opT P ops S et sl oi K a w := by
  unfold Rg.opT
  rcases hy with ⟨h1, h2, h3⟩ | ⟨h1, rfl⟩
  · rw [if_pos h1, if_neg (by simp [hE])]
    exact ⟨v, h2, fun hs => h3 (hst hs), h⟩
  · rw [if_neg (by simp [h1])]; exact h

/-- The set 'D' holds all that may come up while 'i' has not: 'i' aside, it is closed under 'all that it waits for is in D'. -/
def closedB (md : Region.Mode) (ops : Array Oper) (D : Array Bool) (i : Nat) : Bool :=
  (List.range ops.size).all fun j => j == i || D.getD j false || !(((ops[j]?).map (·.after.all fun e => !Region.binds md e || (e.on != i && D.getD e.on false))).getD false)

theorem closedB_spec {D : Array Bool} {i j : Nat} {oj : Oper} (h : closedB md ops D i = true) (hj : ops[j]? = some oj) (hne : j ≠ i) (hd : ∀ e ∈ oj.after, Region.binds md e = true → e.on ≠ i ∧ D.getD e.on false = true) : D.getD j false = true := by
  have h1 := List.all_eq_true.1 h j (List.mem_range.2 (Array.getElem?_eq_some_iff.1 hj).1)
  simp only [hj, Bool.or_eq_true, beq_iff_eq, hne, false_or, Option.map_some, Option.getD_some] at h1
  rcases h1 with h1 | h1
  · exact h1
  · exfalso
    have h2 : (oj.after.all fun e => !Region.binds md e || (e.on != i && D.getD e.on false)) = true := by
      rw [Array.all_eq_true_iff_forall_mem]
      intro e he
      cases hb : Region.binds md e with
      | false => rfl
      | true =>
        have := hd e he hb
        simp [this.1, this.2]
    rw [h2] at h1
    cases h1

/-- All that may come up before 'i', computed (edges lead backwards). -/
def before (md : Region.Mode) (ops : Array Oper) (listed : Array Bool) (i : Nat) : Array Bool :=
  (List.range ops.size).foldl (fun D j => if j == i then D else if ((ops[j]?).map (·.after.all fun e => !Region.binds md e || (e.on != i && D.getD e.on false))).getD false then D.setIfInBounds j true else D) listed

theorem wpAnyT_first {QT : Act → World → Prop} {i : Nat} {oi : Oper} {st : Bool} {v : Value} {D : Array Bool} (hi : ops[i]? = some oi) (hsel : ∀ (j : Nat) (o : Oper) cs b, ops[j]? = some o → o.op ≠ .select cs b)
    (hE : isE et oi = false) (hsl : inT sl oi = true → st = true) (hD : closedB md ops D i = true) :
    ∀ (fuel : Nat) (listed : Array Bool) (a : Act) (w : World),
      (∀ j oj, ops[j]? = some oj → j ≠ i → listed.getD j true = false → D.getD j false = true → oi.apart ops oj = true ∧ (isE et oj = true → st = true)) →
      (∀ j, listed.getD j false = true → j ≠ i ∧ D.getD j false = true) →
      i ∈ Region.ready md ops listed → YT P ops S st oi v a w → S w →
      wpAnyT P md ops S et sl QT fuel (listed.setIfInBounds i true) (a.put oi.dst v) w → wpAnyT P md ops S et sl QT (fuel + 1) listed a w := by
  intro fuel
  induction fuel with
  | zero =>
    intro listed a w _ _ hr hy hS H
    refine ⟨fun h => (by rw [h] at hr; cases hr), fun j hj => ?_⟩
    by_cases hji : j = i
    · subst hji; unfold opAt; rw [hi]; exact hy.opT hE hsl H
    · have := ready_mono hj hji
      rw [H.1] at this
      cases this
  | succ fuel ih =>
    intro listed a w hfree hin hr hy hS H
    refine ⟨fun h => (by rw [h] at hr; cases hr), fun j hj => ?_⟩
    by_cases hji : j = i
    · subst hji; unfold opAt; rw [hi]; exact hy.opT hE hsl H
    · have h1 := H.2 j (ready_mono hj hji)
      obtain ⟨hjun, oj, hoj, hall⟩ := mem_ready.1 hj
      have hDj : D.getD j false = true := closedB_spec hD hoj hji fun e he hb => hin _ (hall e he hb)
      unfold opAt at h1 ⊢
      rw [hoj] at h1 ⊢
      have hf := hfree j oj hoj hji hjun hDj
      have h2 := opT_put hf.1 (fun cs b => hsel i oi cs b hi) (fun cs b => hsel j oj cs b hoj) hf.2 hy h1 hS
      have hfree' : ∀ k ok, ops[k]? = some ok → k ≠ i → (listed.setIfInBounds j true).getD k true = false → D.getD k false = true → oi.apart ops ok = true ∧ (isE et ok = true → st = true) := fun k ok hk hki hun hd => by
        refine hfree k ok hk hki ?_ hd
        by_cases hjk : j = k
        · subst hjk; exact hjun
        · rw [getD_set_ne true hjk] at hun; exact hun
      have hin' : ∀ k, (listed.setIfInBounds j true).getD k false = true → k ≠ i ∧ D.getD k false = true := fun k hk => by
        by_cases hjk : j = k
        · subst hjk; exact ⟨hji, hDj⟩
        · rw [getD_set_ne false hjk] at hk; exact hin k hk
      refine opT_mono (fun a' w' h3 => ih (listed.setIfInBounds j true) a' w' hfree' hin' (ready_mono hr (Ne.symm hji)) h3.2.1 h3.1 ?_) h2
      rw [Array.setIfInBounds_comm _ _ hji]
      exact h3.2.2

/-- The check: 'ns' is an order in which the region may be walked. -/
def okT (zs : List TypeId) (md : Region.Mode) (ops : Array Oper) (et sl : List Tmp) : List Nat → Array Bool → Bool
  | [], listed => (Region.ready md ops listed).isEmpty
  | i :: ns, listed =>
    (match ops[i]? with
     | none => false
     | some oi =>
       if isE et oi then decide (Region.ready md ops listed = [i])
       else
         let D := before md ops listed i
         (Region.ready md ops listed).contains i && closedB md ops D i &&
         (List.range ops.size).all (fun j => (!listed.getD j false || (j != i && D.getD j false)) && (j == i || listed.getD j true || !D.getD j false ||
           match ops[j]? with
           | none => true
           | some oj => oi.apart ops oj && (!isE et oj || cleanK zs oi.op || inT sl oi)))) &&
    okT zs md ops et sl ns (listed.setIfInBounds i true)

def pickL (l : List Oper) : List Nat → List Oper
  | [] => []
  | n :: ns => match l[n]? with
    | some o => o :: pickL l ns
    | none => pickL l ns

theorem clean_gives {zs : List TypeId} (hz : sizedB P zs = true) {o : Oper} {a : Act} {w : World} {v : Value} (hk : cleanK zs o.op = true) (h : Gives P o a w v) (w2 : World) : Gives P o a w2 v := by
  unfold Gives at *
  obtain ⟨dst, op, type, pos, after, guard⟩ := o
  cases op
  case move x => simpa [execOp] using h
  case assign x => simpa [execOp] using h
  case pick c x y =>
    cases hc : a.eval c <;> simp [execOp, hc, asBool] at h ⊢
    exact h
  case extract t ix =>
    cases ht : a.eval t <;> simp [execOp, ht, Instr.extract] at h ⊢
    rename_i vs
    cases hv : vs[ix]? <;> simp [hv] at h ⊢
    exact h
  case fieldAddr s x i =>
    simp only [cleanK] at hk
    simp only [execOp, Sem.run_bind, Sem.run_pure] at h ⊢
    cases hf : (Instr.fieldAt s (a.eval x) i).run P w with
    | halt y w1 => rw [hf] at h; simp at h
    | ok u w1 =>
      obtain ⟨rfl, h2⟩ := fieldAt_clean hz hk hf w2
      rw [hf] at h
      rw [h2]
      simp only [Result.andThen_ok, Result.ok.injEq, Next.value.injEq] at h ⊢
      exact ⟨h.1, trivial⟩
  all_goals (simp [cleanK] at hk)

theorem wpAnyT_of_order {zs : List TypeId} (hz' : sizedB P zs = true) {QT : Act → World → Prop} (hs : Region.noSelect ops = true) : ∀ (ns : List Nat) (listed : Array Bool) (a : Act) (w : World), listed.size ≤ ops.size → okT zs md ops et sl ns listed = true → S w →
    wpT P ops S et sl QT (pickL ops.toList ns) a w → wpAnyT P md ops S et sl QT ns.length listed a w
  | [], listed, a, w, _, hB, _, h => ⟨by simpa [okT] using hB, h⟩
  | i :: ns, listed, a, w, hz, hB, hS, h => by
    simp only [okT, Bool.and_eq_true] at hB
    obtain ⟨hB1, hB2⟩ := hB
    cases hi : ops[i]? with
    | none => rw [hi] at hB1; simp at hB1
    | some oi =>
      rw [hi] at hB1
      have hl : ops.toList[i]? = some oi := by simpa using hi
      simp only [pickL, hl, wpT] at h
      by_cases hE : isE et oi = true
      · simp only [hE, if_true, decide_eq_true_eq] at hB1
        refine ⟨fun h0 => (by rw [hB1] at h0; cases h0), fun j hj => ?_⟩
        rw [hB1] at hj
        have hj' : j = i := by simpa using hj
        subst hj'
        have goal : opT P ops S et sl oi (wpAnyT P md ops S et sl QT ns.length (listed.setIfInBounds j true)) a w := by
          unfold opT at h ⊢
          by_cases hw : Region.wanted oi (yielded ops a.tmps) = true
          · rw [if_pos hw, if_pos hE] at h
            rw [if_pos hw, if_pos hE]
            exact Oper.wp_mono (fun a' w' h' => ⟨h'.1, wpAnyT_of_order hz' hs ns _ a' w' (by simpa using hz) hB2 h'.1 h'.2⟩) h
          · rw [if_neg hw] at h
            rw [if_neg hw]
            exact wpAnyT_of_order hz' hs ns _ _ _ (by simpa using hz) hB2 hS h
        unfold opAt
        rw [hi]
        exact goal
      · have hE' : isE et oi = false := by simpa using hE
        simp only [hE', Bool.false_eq_true, if_false, Bool.and_eq_true] at hB1
        obtain ⟨⟨hr, hcl⟩, hall⟩ := hB1
        have hall' := fun j oj (hj : ops[j]? = some oj) => List.all_eq_true.1 hall j (List.mem_range.2 (Array.getElem?_eq_some_iff.1 hj).1)
        have hy : ∃ v, YT P ops S (cleanK zs oi.op || inT sl oi) oi v a w ∧ wpT P ops S et sl QT (pickL ops.toList ns) (a.put oi.dst v) w := by
          unfold opT at h
          by_cases hw : Region.wanted oi (yielded ops a.tmps) = true
          · rw [if_pos hw, if_neg hE] at h
            obtain ⟨v, h1, h2, h3⟩ := h
            refine ⟨v, .inl ⟨hw, h1, fun hst w2 hw2 => ?_⟩, h3⟩
            rcases Bool.or_eq_true _ _ ▸ hst with hk | hk
            · exact clean_gives hz' hk h1 w2
            · exact h2 hk w2 hw2
          · rw [if_neg hw] at h
            exact ⟨undef, .inr ⟨by simpa using hw, rfl⟩, h⟩
        obtain ⟨v, hy, hK⟩ := hy
        refine wpAnyT_first hi (Region.noSelect_spec hs) hE' (fun hsl => by simp [hsl]) hcl ns.length listed a w ?_ ?_ (by simpa using hr) hy hS (wpAnyT_of_order hz' hs ns _ _ _ (by simpa using hz) hB2 hS hK)
        · intro j oj hj hne hun hd
          have h1 := (Bool.and_eq_true _ _ ▸ hall' j oj hj).2
          simp only [hj, hne, hun, hd, Bool.or_eq_true, beq_iff_eq, Bool.and_eq_true, Bool.not_eq_true', false_or, Bool.false_eq_true, Bool.true_eq_false] at h1
          refine ⟨h1.1, fun he => ?_⟩
          rcases h1.2 with (h2 | h2) | h2
          · rw [he] at h2; cases h2
          · simp [h2]
          · simp [h2]
        · intro j hj
          have hlt : j < ops.size := by
            rcases Nat.lt_or_ge j listed.size with h' | h'
            · omega
            · simp [Array.getElem?_eq_none h'] at hj
          have h1 := List.all_eq_true.1 hall j (List.mem_range.2 hlt)
          simp only [hj, Bool.and_eq_true, Bool.or_eq_true, Bool.not_true, Bool.false_eq_true, false_or, bne_iff_ne] at h1
          exact h1.1

/-- THE LAW: a region that draws its order, walked in the order 'ns'. -/
theorem wp_region_T {id : Nat} {a : Act} {w : World} {l : List Oper} (S : World → Prop) (zs : List TypeId) (et sl : List Tmp) (ns : List Nat) (hz : sizedB P zs = true) (hm : P.follows .mixedOrders = true)
    (hB : (Region.noSelect l.toArray && decide (ns.length = l.length) && okT zs .any l.toArray et sl ns (Array.replicate l.length false)) = true) (hS : S w.drew)
    (h : wpT P l.toArray S et sl (fun a' w' => Q .normal a' w') (pickL l ns) a w.drew) : (Code.region id l.toArray true).wp P Q a w := by
  simp only [Bool.and_eq_true, decide_eq_true_eq] at hB
  obtain ⟨⟨hs, hl⟩, hB⟩ := hB
  refine wp_region_any hm ?_
  have h1 := wpAnyT_of_order (P := P) (md := .any) (S := S) (et := et) (sl := sl) (QT := fun a' w' => Q .normal a' w') hz hs ns (Array.replicate l.length false) a w.drew (by simp) hB hS (by simpa using h)
  have h2 := wpAny_of_T (P := P) (Q := Q) (fun _ _ h => h) _ _ _ _ h1
  rw [hl] at h2
  simpa using h2

theorem wpT_nil {QT : Act → World → Prop} {a : Act} {w : World} (h : QT a w) : wpT P ops S et sl QT [] a w := h

theorem exec_value {o : Oper} {a : Act} {w w' : World} {n : Next} (he : isE et o = false) (h : (execOp a.eval o).run P w = .ok n w') : ∃ v, n = .value v := by
  obtain ⟨dst, op, type, pos, after, guard⟩ := o
  have he' : isEop op = false := by
    simp only [isE, Bool.or_eq_false_iff] at he; exact he.1
  have key : ∀ (s : Sem Value), (do pure (Next.value (← s)) : Sem Next).run P w = .ok n w' → ∃ v, n = .value v := fun s hs => by
    simp only [Sem.run_bind, Sem.run_pure] at hs
    generalize s.run P w = r at hs
    cases r with
    | ok v w2 => simp at hs; exact ⟨v, hs.1.symm⟩
    | halt x w2 => simp at hs
  cases op
  case call c =>
    obtain ⟨callee, args, ats⟩ := c
    cases callee with
    | builtin b =>
      rw [BigFrame.execOp_builtin] at h
      cases b <;> simp [isEop] at he'
      · rw [BigFrame.builtin_cap] at h; exact key _ h
      · rw [BigFrame.builtin_len] at h; exact key _ h
    | value f => simp [isEop] at he'
    | invoke f m => simp [isEop] at he'
  case move x => simp [execOp] at h; exact ⟨_, h.1.symm⟩
  case assign x => simp [execOp] at h; exact ⟨_, h.1.symm⟩
  case pick c x y =>
    simp only [execOp, Sem.run_bind, Sem.run_pure] at h
    generalize (asBool (a.eval c)).run P w = r at h
    cases r with
    | ok v w2 => simp at h; exact ⟨_, h.1.symm⟩
    | halt x w2 => simp at h
  case nilCheck x =>
    simp only [execOp] at h
    split at h
    · simp [runtimePanic] at h
    · simp [runtimePanic] at h
    · simp [runtimePanic] at h
    · split at h
      · simp [runtimePanic] at h
      · simp only [Sem.run_bind] at h
        generalize hq : (Sem.run P _ w) = r at h
        cases r with
        | ok v w2 =>
          simp only [Result.andThen_ok] at h
          generalize hq2 : (Sem.run P _ w2) = r2 at h
          cases r2 with
          | ok v2 w3 =>
            simp only [Result.andThen_ok] at h
            split at h
            · simp at h
            · simp at h; exact ⟨_, h.1.symm⟩
          | halt y w3 => simp at h
        | halt y w2 => simp at h
      · simp at h; exact ⟨_, h.1.symm⟩
    · simp at h; exact ⟨_, h.1.symm⟩
  all_goals first
    | exact key _ h
    | (simp [isEop] at he'; done)

/-- An operation without effect. -/
theorem wpT_q {QT : Act → World → Prop} {o : Oper} {rest : List Oper} {a : Act} {w : World} (he : isE et o = false) (hs : inT sl o = false)
    (h : ∀ K : Act → World → Prop, (∀ a', wpT P ops S et sl QT rest a' w → K a' w) → if Region.wanted o (yielded ops a.tmps) then o.wp P a w K Qf else K (a.put o.dst undef) w) : wpT P ops S et sl QT (o :: rest) a w := by
  have h1 := h (fun a' w' => w' = w ∧ wpT P ops S et sl QT rest a' w) (fun a' h => ⟨rfl, h⟩)
  unfold wpT opT
  split
  · rename_i hw
    rw [if_pos hw] at h1
    rw [if_neg (by simp [he])]
    unfold Oper.wp at h1
    unfold Gives
    generalize hr : (execOp a.eval o).run P w = r at h1
    cases r with
    | ok n w' =>
      obtain ⟨v, rfl⟩ := exec_value he hr
      simp only [Oper.upon] at h1
      obtain ⟨rfl, h2⟩ := h1
      exact ⟨v, rfl, by simp [hs], h2⟩
    | halt x w' =>
      exfalso
      cases x <;> simp only [Oper.upon] at h1
      exact h1
  · rename_i hw
    rw [if_neg hw] at h1
    exact h1.2

/-- An operation without effect that may come up behind another one's effect: it must yield the same in every world that meets S. -/
theorem wpT_s {QT : Act → World → Prop} {o : Oper} {rest : List Oper} {a : Act} {w : World} (v : Value) (he : isE et o = false) (hg : o.guard = none) (hv : Gives P o a w v) (hs : ∀ w2, S w2 → Gives P o a w2 v)
    (h : wpT P ops S et sl QT rest (a.put o.dst v) w) : wpT P ops S et sl QT (o :: rest) a w := by
  unfold wpT opT
  rw [if_pos (by simp [Region.wanted, hg]), if_neg (by simp [he])]
  exact ⟨v, hv, fun _ => hs, h⟩

/-- An operation with an effect. -/
theorem wpT_e {QT : Act → World → Prop} {o : Oper} {rest : List Oper} {a : Act} {w : World} (he : isE et o = true)
    (h : ∀ K : Act → World → Prop, (∀ a' w', S w' ∧ wpT P ops S et sl QT rest a' w' → K a' w') → if Region.wanted o (yielded ops a.tmps) then o.wp P a w K Qf else K (a.put o.dst undef) w) : wpT P ops S et sl QT (o :: rest) a w := by
  have h1 := h (fun a' w' => S w' ∧ wpT P ops S et sl QT rest a' w') (fun a' w' h => h)
  unfold wpT opT
  split
  · rename_i hw
    rw [if_pos hw] at h1
    first | exact h1 | (rw [if_pos he]; exact h1)
  · rename_i hw
    rw [if_neg hw] at h1
    exact h1.2
theorem wpT_e0 {QT : Act → World → Prop} {o : Oper} {rest : List Oper} {a : Act} {w : World} (he : isE et o = true)
    (h : ∀ K : Act → World → Prop, (∀ a' w', wpT P ops (fun _ => True) et sl QT rest a' w' → K a' w') → if Region.wanted o (yielded ops a.tmps) then o.wp P a w K Qf else K (a.put o.dst undef) w) : wpT P ops (fun _ => True) et sl QT (o :: rest) a w :=
  wpT_e he fun K hK => h K fun a' w' h' => hK a' w' ⟨trivial, h'⟩

/-! The same, by what the guard says. -/
theorem yielded_list (l : List Oper) (ts : List Value) (ds : List Deferred) (j : Nat) (t : Tmp) (b : Bool) (hd : (l[j]?).bind (·.dst) = some t) (ht : ts[t]? = some (.bool b)) : yielded l.toArray (⟨ts.toArray, ds⟩ : Act).tmps j = some b := by
  unfold yielded
  simp [hd, ht]
theorem wanted_yes {l : List Oper} {ts : List Value} {ds : List Deferred} {o : Oper} (j : Nat) (want : Bool) (t : Tmp) (hg : o.guard = some (j, want)) (hd : (l[j]?).bind (·.dst) = some t) (ht : ts[t]? = some (.bool want)) :
    Region.wanted o (yielded l.toArray (⟨ts.toArray, ds⟩ : Act).tmps) = true := by
  simp [Region.wanted, hg, yielded_list l ts ds j t want hd ht]
theorem wanted_no {l : List Oper} {ts : List Value} {ds : List Deferred} {o : Oper} (j : Nat) (want : Bool) (t : Tmp) (hg : o.guard = some (j, want)) (hd : (l[j]?).bind (·.dst) = some t) (ht : ts[t]? = some (.bool (!want))) :
    Region.wanted o (yielded l.toArray (⟨ts.toArray, ds⟩ : Act).tmps) = false := by
  simp [Region.wanted, hg, yielded_list l ts ds j t (!want) hd ht]
theorem wanted_un {l : List Oper} {ts : List Value} {ds : List Deferred} {o : Oper} (j : Nat) (want : Bool) (t : Tmp) (hg : o.guard = some (j, want)) (hd : (l[j]?).bind (·.dst) = some t) (ht : ts[t]? = some undef) :
    Region.wanted o (yielded l.toArray (⟨ts.toArray, ds⟩ : Act).tmps) = false := by
  simp [Region.wanted, hg, yielded, hd, ht, undef]
theorem wpT_q0 {QT : Act → World → Prop} {o : Oper} {rest : List Oper} {a : Act} {w : World} (hg : o.guard = none) (he : isE et o = false) (hs : inT sl o = false)
    (h : ∀ K : Act → World → Prop, (∀ a', wpT P ops S et sl QT rest a' w → K a' w) → o.wp P a w K Qf) : wpT P ops S et sl QT (o :: rest) a w :=
  wpT_q he hs fun K hK => by rw [if_pos (by simp [Region.wanted, hg])]; exact h K hK
theorem wpT_q1 {QT : Act → World → Prop} {o : Oper} {rest : List Oper} {a : Act} {w : World} (hg : Region.wanted o (yielded ops a.tmps) = true) (he : isE et o = false) (hs : inT sl o = false)
    (h : ∀ K : Act → World → Prop, (∀ a', wpT P ops S et sl QT rest a' w → K a' w) → o.wp P a w K Qf) : wpT P ops S et sl QT (o :: rest) a w :=
  wpT_q he hs fun K hK => by rw [if_pos hg]; exact h K hK
theorem wpT_no {QT : Act → World → Prop} {o : Oper} {rest : List Oper} {a : Act} {w : World} (hg : Region.wanted o (yielded ops a.tmps) = false)
    (h : wpT P ops S et sl QT rest (a.put o.dst undef) w) : wpT P ops S et sl QT (o :: rest) a w := by
  unfold wpT opT
  rw [if_neg (by simp [hg])]
  exact h
def setO (ts : List Value) : Option Tmp → List Value
  | some d => ts.set d undef
  | none => ts
theorem wpT_noL {QT : Act → World → Prop} {o : Oper} {rest : List Oper} {ts : List Value} {ds : List Deferred} {w : World} (hg : Region.wanted o (yielded ops (⟨ts.toArray, ds⟩ : Act).tmps) = false)
    (h : wpT P ops S et sl QT rest ⟨(setO ts o.dst).toArray, ds⟩ w) : wpT P ops S et sl QT (o :: rest) ⟨ts.toArray, ds⟩ w := by
  refine wpT_no hg ?_
  cases hd : o.dst with
  | none => simpa [hd, Act.put, setO] using h
  | some d => simpa [hd, Act.put, setO] using h
theorem wpT_x0 {QT : Act → World → Prop} {o : Oper} {rest : List Oper} {a : Act} {w : World} (hg : o.guard = none) (he : isE et o = true)
    (h : ∀ K : Act → World → Prop, (∀ a' w', wpT P ops (fun _ => True) et sl QT rest a' w' → K a' w') → o.wp P a w K Qf) : wpT P ops (fun _ => True) et sl QT (o :: rest) a w :=
  wpT_e0 he fun K hK => by rw [if_pos (by simp [Region.wanted, hg])]; exact h K hK
theorem wpT_x1 {QT : Act → World → Prop} {o : Oper} {rest : List Oper} {a : Act} {w : World} (hg : Region.wanted o (yielded ops a.tmps) = true) (he : isE et o = true)
    (h : ∀ K : Act → World → Prop, (∀ a' w', wpT P ops (fun _ => True) et sl QT rest a' w' → K a' w') → o.wp P a w K Qf) : wpT P ops (fun _ => True) et sl QT (o :: rest) a w :=
  wpT_e0 he fun K hK => by rw [if_pos hg]; exact h K hK
theorem wpT_xs0 {QT : Act → World → Prop} {o : Oper} {rest : List Oper} {a : Act} {w : World} (hg : o.guard = none) (he : isE et o = true)
    (h : ∀ K : Act → World → Prop, (∀ a' w', S w' ∧ wpT P ops S et sl QT rest a' w' → K a' w') → o.wp P a w K Qf) : wpT P ops S et sl QT (o :: rest) a w :=
  wpT_e he fun K hK => by rw [if_pos (by simp [Region.wanted, hg])]; exact h K hK
theorem wpT_xs1 {QT : Act → World → Prop} {o : Oper} {rest : List Oper} {a : Act} {w : World} (hg : Region.wanted o (yielded ops a.tmps) = true) (he : isE et o = true)
    (h : ∀ K : Act → World → Prop, (∀ a' w', S w' ∧ wpT P ops S et sl QT rest a' w' → K a' w') → o.wp P a w K Qf) : wpT P ops S et sl QT (o :: rest) a w :=
  wpT_e he fun K hK => by rw [if_pos hg]; exact h K hK
end

/-- 'w2' has all that 'w0' had, and perhaps more: the condition that is kept behind the effects of a region whose loads may come up late. -/
structure Since (w0 w2 : World) : Prop where
  size : w0.heap.size ≤ w2.heap.size
  block : ∀ b, b < w0.heap.size → w2.heap[b]? = w0.heap[b]?
theorem Since.refl (w : World) : Since w w := ⟨Nat.le_refl _, fun _ _ => rfl⟩
theorem Since.drew (w : World) : Since w w.drew := ⟨Nat.le_refl _, fun _ _ => rfl⟩
theorem Since.drewR {w0 w : World} (h : Since w0 w) : Since w0 w.drew := ⟨h.size, h.block⟩
theorem Since.below {w0 w w' : World} (h : Since w0 w) (hb : Below w.heap.size w w') : Since w0 w' :=
  ⟨Nat.le_trans h.size hb.size, fun b hb' => (hb.block b (Nat.lt_of_lt_of_le hb' h.size)).trans (h.block b hb')⟩
theorem Since.alloc {w0 w : World} (h : Since w0 w) (o : Obj) : Since w0 (w.alloc o) := h.below ((Below.refl _ _).alloc (Nat.le_refl _) o)
theorem Since.cell {w0 w : World} (h : Since w0 w) {p : Addr} {v : Value} (hp : p.block < w0.heap.size) (hc : w0.cell? p = some v) : w.cell? p = some v :=
  (World.cell?_of_block (h.block p.block hp)).trans hc
theorem Since.and_ {w0 w : World} {R : Prop} (h : Since w0 w) (k : Since w0 w → R) : Since w0 w ∧ R := ⟨h, k h⟩
theorem lt_of_cell {w : World} {p : Addr} {v : Value} (h : w.cell? p = some v) : p.block < w.heap.size := by
  rcases Nat.lt_or_ge p.block w.heap.size with h1 | h1
  · exact h1
  · simp [World.cell?, Array.getElem?_eq_none h1] at h
theorem run_load_since {P : Program} {w w2 : World} {b : Nat} {cs : Array Value} {e : TypeId} {fz : Nat × Nat} (h1 : w.heap[b]? = some (.cells cs e fz)) (h2 : w2.heap[b]? = some (.cells cs e fz)) {p : Addr} (hp : p.block = b) {v : Value} {m : Mode}
    (h : (load p m).run P w = .ok v w) : (load p m).run P w2 = .ok v w2 := by
  subst hp
  have hc : w2.cell? p = w.cell? p := by simp [World.cell?, h1, h2]
  rw [run_load] at h ⊢
  rw [hc]
  cases hv : w.cell? p with
  | some u => rw [hv] at h; simp at h ⊢; exact h
  | none =>
    rw [hv] at h
    simp [World.farLoad, h1] at h
theorem run_loadCells_since {P : Program} {w w2 : World} {cs : Array Value} {e : TypeId} {fz : Nat × Nat} {p : Addr} (h1 : w.heap[p.block]? = some (.cells cs e fz)) (h2 : w2.heap[p.block]? = some (.cells cs e fz)) :
    ∀ (n i : Nat) (acc r : Array Value), (loadCellsFrom p i n acc).run P w = .ok r w → (loadCellsFrom p i n acc).run P w2 = .ok r w2
  | 0, i, acc, r, h => by simpa [loadCellsFrom] using h
  | n + 1, i, acc, r, h => by
    simp only [loadCellsFrom, Sem.run_bind] at h ⊢
    have hb : (p.add i).block = p.block := by unfold Addr.add; split <;> rfl
    cases hl : (load (p.add i)).run P w with
    | halt x w' => rw [hl] at h; simp at h
    | ok u w' =>
      have hw : w' = w := by
        rw [run_load] at hl
        split at hl
        · simp at hl; exact hl.2.symm
        · simp [World.farLoad, hb, h1] at hl
      subst hw
      rw [hl] at h
      rw [run_load_since (by rw [hb]; exact h1) (by rw [hb]; exact h2) rfl hl]
      exact run_loadCells_since h1 h2 n (i + 1) _ r h
theorem gives_load {P : Program} {o : Oper} {a : Act} {w w0 : World} {p : Addr} {u v : Value} {t : TypeId} {x : Operand} (ho : o.op = .load t x) (hx : a.eval x = .pointer (some p)) (hc : w.cell? p = some u) (hp : p.block < w0.heap.size) (hS : Since w0 w) (hg : Gives P o a w v) :
    ∀ w2, Since w0 w2 → Gives P o a w2 v := by
  intro w2 h2
  obtain ⟨cs, e, fz, hh⟩ : ∃ cs e fz, w.heap[p.block]? = some (.cells cs e fz) := by
    unfold World.cell? at hc
    split at hc
    · rename_i cs e fz hh; exact ⟨cs, e, fz, hh⟩
    · cases hc
  have hh2 : w2.heap[p.block]? = some (.cells cs e fz) := (h2.block _ hp).trans ((hS.block _ hp).symm.trans hh)
  unfold Gives at *
  obtain ⟨dst, op, type, pos, after, guard⟩ := o
  simp only at ho
  subst ho
  simp only [execOp, hx, Instr.loadAt, Instr.sureAddr, Sem.run_bind, Sem.run_pure, Result.andThen_ok, loadVar] at hg ⊢
  cases hi : (isAgg t).run P w with
  | halt x w1 => rw [hi] at hg; simp at hg
  | ok b w1 =>
    obtain ⟨rfl, hi2⟩ := free_isAgg P t w w2 b w1 hi
    rw [hi] at hg
    rw [hi2]
    simp only [Result.andThen_ok] at hg ⊢
    cases b
    · simp only [Bool.false_eq_true, if_false] at hg ⊢
      cases hl : (load p).run P w1 with
      | halt x w3 => rw [hl] at hg; simp at hg
      | ok u' w3 =>
        rw [hl] at hg
        simp only [Result.andThen_ok, Result.ok.injEq, Next.value.injEq] at hg
        obtain ⟨rfl, rfl⟩ := hg
        rw [run_load_since hh hh2 rfl hl]
        rfl
    · simp only [if_true, Sem.run_bind, Sem.run_pure] at hg ⊢
      cases hs : (sizeOf t).run P w1 with
      | halt x w3 => rw [hs] at hg; simp at hg
      | ok n w3 =>
        obtain ⟨rfl, hs2⟩ := free_sizeOf P t w1 w2 n w3 hs
        rw [hs] at hg
        rw [hs2]
        simp only [Result.andThen_ok, loadCells] at hg ⊢
        cases hl : (loadCellsFrom p 0 n #[]).run P w3 with
        | halt x w4 => rw [hl] at hg; simp at hg
        | ok r w4 =>
          rw [hl] at hg
          simp only [Result.andThen_ok, Result.ok.injEq, Next.value.injEq] at hg
          obtain ⟨rfl, rfl⟩ := hg
          rw [run_loadCells_since hh hh2 n 0 #[] r hl]
          rfl
/-- A load that may come up behind an effect: its block stood when the region began. -/
theorem wpT_l {P : Program} {ops : Array Oper} {et sl : List Tmp} {QT : Act → World → Prop} {o : Oper} {rest : List Oper} {a : Act} {w w0 : World} {t : TypeId} (x : Operand) (p : Addr) (hg : o.guard = none) (ho : o.op = .load t x) (het : inT et o = false) (hx : a.eval x = .pointer (some p))
    (hS : Since w0 w) (hp : p.block < w0.heap.size) (hc : (w.cell? p).isSome = true)
    (h : ∀ K : Act → World → Prop, (∀ a', wpT P ops (Since w0) et sl QT rest a' w → K a' w) → o.wp P a w K Qf) : wpT P ops (Since w0) et sl QT (o :: rest) a w := by
  have h1 := h (fun a' w' => w' = w ∧ wpT P ops (Since w0) et sl QT rest a' w') (fun a' h => ⟨rfl, h⟩)
  have he : isE et o = false := by simp [isE, isEop, ho, het]
  obtain ⟨u, hc⟩ := Option.isSome_iff_exists.1 hc
  unfold Oper.wp at h1
  generalize hr : (execOp a.eval o).run P w = r at h1
  cases r with
  | ok n w' =>
    obtain ⟨v, rfl⟩ := exec_value he hr
    simp only [Oper.upon] at h1
    obtain ⟨rfl, h2⟩ := h1
    exact wpT_s v he hg hr (gives_load ho hx hc hp hS hr) h2
  | halt y w' =>
    exfalso
    cases y <;> simp only [Oper.upon] at h1
    exact h1
/-- Arithmetic that cannot panic. -/
def okInt (op : BinOp) (j : Int) : Bool := match op with
  | .shl | .shr => false
  | .quo | .rem => j != 0
  | _ => true
theorem gives_int {P : Program} {o : Oper} {a : Act} {w : World} {v : Value} {op : BinOp} {t r : TypeId} {x y : Operand} {k k' : IntKind} {i j : Int} (ho : o.op = .binOp op t x y r) (hx : a.eval x = .int k i) (hy : a.eval y = .int k' j) (hj : okInt op j = true) (hg : Gives P o a w v) :
    ∀ w2, Gives P o a w2 v := by
  intro w2
  unfold Gives at *
  obtain ⟨dst, op', type, pos, after, guard⟩ := o
  simp only at ho
  subst ho
  cases op <;> simp [okInt] at hj <;> simp [execOp, hx, hy, binOp, eqGuard, Op.intArith, Op.intDiv, Op.intBits, Op.intCmp, hj] at hg ⊢ <;> (try split at hg) <;> (try split at hg) <;> simp_all
/-- Integers' arithmetic that may come up behind an effect. -/
def AtInt (et : List Tmp) (o : Oper) (a : Act) : Prop := ∃ op t x y r k k' i j, o.guard = none ∧ inT et o = false ∧ o.op = .binOp op t x y r ∧ a.eval x = .int k i ∧ a.eval y = .int k' j ∧ okInt op j = true
theorem wpT_b {P : Program} {ops : Array Oper} {S : World → Prop} {et sl : List Tmp} {QT : Act → World → Prop} {o : Oper} {rest : List Oper} {a : Act} {w : World} (h0 : AtInt et o a)
    (h : ∀ K : Act → World → Prop, (∀ a', wpT P ops S et sl QT rest a' w → K a' w) → o.wp P a w K Qf) : wpT P ops S et sl QT (o :: rest) a w := by
  obtain ⟨op, t, x, y, r, k, k', i, j, hg, het, ho, hx, hy, hj⟩ := h0
  have h1 := h (fun a' w' => w' = w ∧ wpT P ops S et sl QT rest a' w') (fun a' h => ⟨rfl, h⟩)
  have he : isE et o = false := by simp [isE, isEop, ho, het]
  unfold Oper.wp at h1
  generalize hr : (execOp a.eval o).run P w = r at h1
  cases r with
  | ok n w' =>
    obtain ⟨v, rfl⟩ := exec_value he hr
    simp only [Oper.upon] at h1
    obtain ⟨rfl, h2⟩ := h1
    exact wpT_s v he hg hr (fun w2 _ => gives_int ho hx hy hj hr w2) h2
  | halt y w' =>
    exfalso
    cases y <;> simp only [Oper.upon] at h1
    exact h1
end Go.Proofs.YtajmfonepnkofaaDoor.Rg
