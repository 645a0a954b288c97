/-
  What 'FVd' rests on (texts of this seat put together: Reg Base GA Open NA NF NO).
  Conditions: none.
-/
import Derived.Below
import Derived.BigFrame
import Derived.BigQuiet
import Derived.ChangeOld
import Derived.ChangeSame
import Derived.Deep.Fields
import Derived.Deep.QuietTactic
import Derived.Deep.Slices
import Derived.OpenShut
import Derived.Orders
import Derived.ProofKit
import Derived.ShutString
import Derived.Tactics
import Derived.Test.YtopmbnnjhoinkaaRows
import Derived.WalkKit
import Derived.WalkLawsBesides
import Derived.WalkSpells
namespace Go.Proofs.Ytopmbnnjhoinkaa.Rg
open Go Go.RowKit
def Qf : Exit → Act → World → Prop := fun _ _ _ => False
def isEop : Op → Bool
  | .move _ | .assign _ | .pick .. | .load .. | .binOp .. | .unOp .. | .fieldAddr .. | .field .. | .indexAddr .. | .index .. | .extract .. | .slice .. | .convert .. | .build .. | .lookup .. | .makeInterface .. | .nilCheck _ => false
  | .call { callee := .builtin .len, .. } | .call { callee := .builtin .cap, .. } => false
  | _ => true
def inT (l : List Tmp) (o : Oper) : Bool := match o.dst with | some d => l.contains d | none => false
def isE (et : List Tmp) (o : Oper) : Bool := isEop o.op || inT et o
def cleanK (zs : List TypeId) : Op → Bool
  | .move _ | .assign _ | .pick .. | .extract .. => true
  | .fieldAddr s _ _ => zs.contains s
  | _ => false
def sizedB (P : Program) (zs : List TypeId) : Bool :=
  zs.all fun s => match P.underlying s with
    | some (.struct fs) => fs.all fun f => match P.info? f.type with | some i => i.size != 0 | none => false
    | _ => false
def Free {α : Type} (P : Program) (s : Sem α) : Prop := ∀ w w2 r w', s.run P w = .ok r w' → w' = w ∧ s.run P w2 = .ok r w2
theorem free_underlying (P : Program) (t : TypeId) : Free P (underlying t) := by
  intro w w2 r w' h
  unfold underlying at *
  simp only [Sem.run_bind, run_program, Result.andThen_ok] at h ⊢
  split at h <;> simp_all
theorem free_isAgg (P : Program) (t : TypeId) : Free P (isAgg t) := by
  intro w w2 r w' h
  unfold isAgg at *
  simp only [Sem.run_bind] at h ⊢
  cases hu : (underlying t).run P w with
  | halt x w1 => rw [hu] at h; simp at h
  | ok d w1 =>
    obtain ⟨rfl, h2⟩ := free_underlying P t w w2 d w1 hu
    rw [hu] at h
    rw [h2]
    simp only [Result.andThen_ok] at h ⊢
    split at h <;> simp_all
theorem free_sizeOf (P : Program) (t : TypeId) : Free P (sizeOf t) := by
  intro w w2 r w' h
  unfold sizeOf typeInfo at *
  simp only [Sem.run_bind, run_program, Result.andThen_ok] at h ⊢
  split at h <;> simp_all
theorem fieldAt_clean {P : Program} {zs : List TypeId} (hz : sizedB P zs = true) {s : TypeId} (hs : zs.contains s = true) {x v : Value} {i : Nat} {w w1 : World} (h : (Instr.fieldAt s x i).run P w = .ok v w1) (w2 : World) :
    w1 = w ∧ (Instr.fieldAt s x i).run P w2 = .ok v w2 := by
  have h1 := List.all_eq_true.1 hz s (by simpa using hs)
  cases hu : P.underlying s with
  | none => rw [hu] at h1; simp at h1
  | some d =>
    cases d with
    | struct fs =>
      rw [hu] at h1
      simp only at h1
      unfold Instr.fieldAt at *
      simp only [Sem.run_bind, run_underlying hu, Result.andThen_ok] at h ⊢
      cases hf : fs[i]? with
      | none => rw [hf] at h; simp at h
      | some f =>
        rw [hf] at h
        simp only [Sem.run_bind] at h ⊢
        have h2 := Array.all_eq_true_iff_forall_mem.1 h1 f (Array.mem_of_getElem? hf)
        cases hi : P.info? f.type with
        | none => rw [hi] at h2; simp at h2
        | some ti =>
          rw [hi] at h2
          have h3 : ti.size ≠ 0 := by simpa using h2
          cases x with
          | pointer a =>
            cases a with
            | none => simp [Instr.sureAddr] at h
            | some a =>
              simp [Instr.sureAddr, fieldPlace, sizeOf, typeInfo, hi, h3] at h ⊢
              exact ⟨h.2.symm, h.1⟩
          | _ => simp [Instr.sureAddr] at h
    | _ => rw [hu] at h1; simp at h1
section
variable {P : Program} {ops : Array Oper} {Q : Exit → Act → World → Prop} {S : World → Prop} {et sl : List Tmp} {md : Region.Mode}
def Gives (P : Program) (o : Oper) (a : Act) (w : World) (v : Value) : Prop := (execOp a.eval o).run P w = .ok (.value v) w
def opT (P : Program) (ops : Array Oper) (S : World → Prop) (et sl : List Tmp) (o : Oper) (K : Act → World → Prop) (a : Act) (w : World) : Prop :=
  if Region.wanted o (yielded ops a.tmps) then
    if isE et o then o.wp P a w (fun a' w' => S w' ∧ K a' w') Qf
    else ∃ v, Gives P o a w v ∧ (inT sl o = true → ∀ w2, S w2 → Gives P o a w2 v) ∧ K (a.put o.dst v) w
  else K (a.put o.dst undef) w
def wpT (P : Program) (ops : Array Oper) (S : World → Prop) (et sl : List Tmp) (Q : Act → World → Prop) : List Oper → Act → World → Prop
  | [], a, w => Q a w
  | o :: rest, a, w => opT P ops S et sl o (wpT P ops S et sl Q rest) a w
def opAt (P : Program) (ops : Array Oper) (S : World → Prop) (et sl : List Tmp) (i : Nat) (K : Act → World → Prop) (a : Act) (w : World) : Prop :=
  match ops[i]? with
  | none => False
  | some o => opT P ops S et sl o K a w
def wpAnyT (P : Program) (md : Region.Mode) (ops : Array Oper) (S : World → Prop) (et sl : List Tmp) (Q : Act → World → Prop) : Nat → Array Bool → Act → World → Prop
  | 0, listed, a, w => Region.ready md ops listed = [] ∧ Q a w
  | fuel + 1, listed, a, w =>
    (Region.ready md ops listed = [] → Q a w) ∧
    ∀ i ∈ Region.ready md ops listed, opAt P ops S et sl i (wpAnyT P md ops S et sl Q fuel (listed.setIfInBounds i true)) a w
theorem wp_Qf {o : Oper} {a : Act} {w : World} {K : Act → World → Prop} (h : o.wp P a w K Qf) : o.wp P a w K Q := by
  unfold Oper.wp at *
  generalize (execOp a.eval o).run P w = r at *
  cases r with
  | ok n w' =>
    cases n <;> simp only [Oper.upon] at h ⊢ <;>
      first
        | exact h
        | exact Calls.mono h (fun e w'' he => by
            cases e with
            | returned v => exact he
            | panicked c => exact he.elim
            | outgrown => obtain ⟨_, _, hx⟩ := he; exact hx.elim)
  | halt x w' => cases x <;> simp only [Oper.upon] at h ⊢ <;> exact h.elim
theorem opT_mono {o : Oper} {a : Act} {w : World} {K K' : Act → World → Prop} (h : ∀ a w, K a w → K' a w) (hh : opT P ops S et sl o K a w) : opT P ops S et sl o K' a w := by
  unfold opT at *
  split
  · rename_i hw
    rw [if_pos hw] at hh
    split
    · rename_i he; rw [if_pos he] at hh; exact Oper.wp_mono (fun a' w' ⟨h1, h2⟩ => ⟨h1, h _ _ h2⟩) hh
    · rename_i he; rw [if_neg he] at hh; obtain ⟨v, h1, h2, h3⟩ := hh; exact ⟨v, h1, h2, h _ _ h3⟩
  · rename_i hw; rw [if_neg hw] at hh; exact h _ _ hh
theorem wpAny_of_T {QT : Act → World → Prop} (hQ : ∀ a w, QT a w → Q .normal a w) : ∀ (fuel : Nat) (listed : Array Bool) (a : Act) (w : World),
    wpAnyT P md ops S et sl QT fuel listed a w → wpAny P md ops Q fuel listed a w
  | 0, _, _, _, h => ⟨h.1, hQ _ _ h.2⟩
  | fuel + 1, listed, a, w, h => ⟨fun h0 => hQ _ _ (h.1 h0), fun i hi => by
      have h2 := h.2 i hi
      unfold opAt at h2
      unfold wpOp
      cases ho : ops[i]? with
      | none => rw [ho] at h2; exact h2.elim
      | some o =>
        rw [ho] at h2
        simp only [opT] at h2 ⊢
        split
        · rename_i hw
          rw [if_pos hw] at h2
          refine .inl ?_
          by_cases he : isE et o = true
          · rw [if_pos he] at h2
            exact wp_Qf (Oper.wp_mono (fun a' w' h' => wpAny_of_T hQ fuel _ a' w' h'.2) h2)
          · rw [if_neg he] at h2
            obtain ⟨v, h3, _, h4⟩ := h2
            unfold Gives at h3
            unfold Oper.wp
            rw [h3]
            exact wpAny_of_T hQ fuel _ _ _ h4
        · rename_i hw
          rw [if_neg hw] at h2
          exact wpAny_of_T hQ fuel _ _ _ h2⟩
def YT (P : Program) (ops : Array Oper) (S : World → Prop) (st : Bool) (o : Oper) (v : Value) (a : Act) (w : World) : Prop :=
  (Region.wanted o (yielded ops a.tmps) = true ∧ Gives P o a w v ∧ (st = true → ∀ w2, S w2 → Gives P o a w2 v)) ∨ (Region.wanted o (yielded ops a.tmps) = false ∧ v = undef)
theorem YT.of_same {o : Oper} {st : Bool} {v : Value} {a a' : Act} {w : World} (hy : YT P ops S st o v a w) (he : execOp a'.eval o = execOp a.eval o)
    (hw : Region.wanted o (yielded ops a'.tmps) = Region.wanted o (yielded ops a.tmps)) : YT P ops S st o v a' w := by
  unfold YT Gives at *
  rw [he, hw]
  exact hy
theorem YT.move {o : Oper} {v : Value} {a : Act} {w w' : World} (hy : YT P ops S true o v a w) (hS : S w') : YT P ops S true o v a w' := by
  rcases hy with ⟨h1, h2, h3⟩ | h
  · exact .inl ⟨h1, h3 rfl _ hS, h3⟩
  · exact .inr h
theorem opT_put {oi oj : Oper} {st : Bool} {v : Value} (hap : oi.apart ops oj = true) (hsi : ∀ cs b, oi.op ≠ .select cs b) (hsj : ∀ cs b, oj.op ≠ .select cs b)
    (hst : isE et oj = true → st = true) {K : Act → World → Prop} {a : Act} {w : World}
    (hy : YT P ops S st oi v a w) (h : opT P ops S et sl oj K (a.put oi.dst v) w) (hS : S w) :
    opT P ops S et sl oj (fun a' w' => S w' ∧ YT P ops S st oi v a' w' ∧ K (a'.put oi.dst v) w') a w := by
  obtain ⟨h1, h2, h3⟩ := Oper.apart_spec hap
  have keep : ∀ (a : Act) (w : World), YT P ops S st oi v a w → ∀ u, YT P ops S st oi v (a.put oj.dst u) w := fun a w hy u =>
    hy.of_same (execOp_put oi hsi a oj.dst u h3) (wanted_put oi a oj.dst u h3)
  have keepD : ∀ (w : World) d, YT P ops S st oi v a w → YT P ops S st oi v { a with defers := d :: a.defers } w := fun w d hy => hy.of_same rfl rfl
  unfold opT at *
  rw [wanted_put oj a oi.dst v h1] at h
  split
  · rename_i hw
    rw [if_pos hw] at h
    split
    · rename_i he
      rw [if_pos he] at h
      have hs := hst he
      subst hs
      unfold Oper.wp at *
      rw [execOp_put oj hsj a oi.dst v h1] at h
      generalize (execOp a.eval oj).run P w = r at *
      cases r with
      | ok n w' =>
        cases n <;> simp only [Oper.upon] at h ⊢
        case value u => exact ⟨h.1, h.1, (keep a w hy u).move h.1, by rw [← Act.put_comm a v u h2]; exact h.2⟩
        case skip => exact ⟨h.1, h.1, (keep a w hy _).move h.1, by rw [← Act.put_comm a v undef h2]; exact h.2⟩
        case defer d =>
          refine ⟨h.1, h.1, (keep _ w (keepD w d hy) _).move h.1, ?_⟩
          rw [← Act.put_comm _ v undef h2, ← Act.put_defers]
          exact h.2
        case enter f args =>
          refine Calls.mono h fun e w'' he => ?_
          cases e with
          | returned u => exact ⟨he.1, he.1, (keep a w hy u).move he.1, by rw [← Act.put_comm a v u h2]; exact he.2⟩
          | panicked c => exact he
          | outgrown => exact he
        case row row args => exact Rows.mono h fun u w'' he => ⟨he.1, he.1, (keep a w hy u).move he.1, by rw [← Act.put_comm a v u h2]; exact he.2⟩
      | halt x w' =>
        cases x <;> simp only [Oper.upon] at h ⊢
        case panic u => exact h
    · rename_i he
      rw [if_neg he] at h
      obtain ⟨u, h4, h5, h6⟩ := h
      unfold Gives at h4 h5
      rw [execOp_put oj hsj a oi.dst v h1] at h4 h5
      exact ⟨u, h4, h5, hS, keep a w hy u, by rw [← Act.put_comm a v u h2]; exact h6⟩
  · rename_i hw
    rw [if_neg hw] at h
    exact ⟨hS, keep a w hy _, by rw [← Act.put_comm a v undef h2]; exact h⟩
theorem YT.opT {oi : Oper} {st : Bool} {v : Value} {a : Act} {w : World} (hE : isE et oi = false) (hst : inT sl oi = true → st = true) (hy : YT P ops S st oi v a w) {K : Act → World → Prop} (h : K (a.put oi.dst v) w) :
    opT P ops S et sl oi K a w := by
  unfold Rg.opT
  rcases hy with ⟨h1, h2, h3⟩ | ⟨h1, rfl⟩
  · rw [if_pos h1, if_neg (by simp [hE])]
    exact ⟨v, h2, fun hs => h3 (hst hs), h⟩
  · rw [if_neg (by simp [h1])]; exact h
def closedB (md : Region.Mode) (ops : Array Oper) (D : Array Bool) (i : Nat) : Bool :=
  (List.range ops.size).all fun j => j == i || D.getD j false || !(((ops[j]?).map (·.after.all fun e => !Region.binds md e || (e.on != i && D.getD e.on false))).getD false)
theorem closedB_spec {D : Array Bool} {i j : Nat} {oj : Oper} (h : closedB md ops D i = true) (hj : ops[j]? = some oj) (hne : j ≠ i) (hd : ∀ e ∈ oj.after, Region.binds md e = true → e.on ≠ i ∧ D.getD e.on false = true) : D.getD j false = true := by
  have h1 := List.all_eq_true.1 h j (List.mem_range.2 (Array.getElem?_eq_some_iff.1 hj).1)
  simp only [hj, Bool.or_eq_true, beq_iff_eq, hne, false_or, Option.map_some, Option.getD_some] at h1
  rcases h1 with h1 | h1
  · exact h1
  · exfalso
    have h2 : (oj.after.all fun e => !Region.binds md e || (e.on != i && D.getD e.on false)) = true := by
      rw [Array.all_eq_true_iff_forall_mem]
      intro e he
      cases hb : Region.binds md e with
      | false => rfl
      | true =>
        have := hd e he hb
        simp [this.1, this.2]
    rw [h2] at h1
    cases h1
def before (md : Region.Mode) (ops : Array Oper) (listed : Array Bool) (i : Nat) : Array Bool :=
  (List.range ops.size).foldl (fun D j => if j == i then D else if ((ops[j]?).map (·.after.all fun e => !Region.binds md e || (e.on != i && D.getD e.on false))).getD false then D.setIfInBounds j true else D) listed
theorem wpAnyT_first {QT : Act → World → Prop} {i : Nat} {oi : Oper} {st : Bool} {v : Value} {D : Array Bool} (hi : ops[i]? = some oi) (hsel : ∀ (j : Nat) (o : Oper) cs b, ops[j]? = some o → o.op ≠ .select cs b)
    (hE : isE et oi = false) (hsl : inT sl oi = true → st = true) (hD : closedB md ops D i = true) :
    ∀ (fuel : Nat) (listed : Array Bool) (a : Act) (w : World),
      (∀ j oj, ops[j]? = some oj → j ≠ i → listed.getD j true = false → D.getD j false = true → oi.apart ops oj = true ∧ (isE et oj = true → st = true)) →
      (∀ j, listed.getD j false = true → j ≠ i ∧ D.getD j false = true) →
      i ∈ Region.ready md ops listed → YT P ops S st oi v a w → S w →
      wpAnyT P md ops S et sl QT fuel (listed.setIfInBounds i true) (a.put oi.dst v) w → wpAnyT P md ops S et sl QT (fuel + 1) listed a w := by
  intro fuel
  induction fuel with
  | zero =>
    intro listed a w _ _ hr hy hS H
    refine ⟨fun h => (by rw [h] at hr; cases hr), fun j hj => ?_⟩
    by_cases hji : j = i
    · subst hji; unfold opAt; rw [hi]; exact hy.opT hE hsl H
    · have := ready_mono hj hji
      rw [H.1] at this
      cases this
  | succ fuel ih =>
    intro listed a w hfree hin hr hy hS H
    refine ⟨fun h => (by rw [h] at hr; cases hr), fun j hj => ?_⟩
    by_cases hji : j = i
    · subst hji; unfold opAt; rw [hi]; exact hy.opT hE hsl H
    · have h1 := H.2 j (ready_mono hj hji)
      obtain ⟨hjun, oj, hoj, hall⟩ := mem_ready.1 hj
      have hDj : D.getD j false = true := closedB_spec hD hoj hji fun e he hb => hin _ (hall e he hb)
      unfold opAt at h1 ⊢
      rw [hoj] at h1 ⊢
      have hf := hfree j oj hoj hji hjun hDj
      have h2 := opT_put hf.1 (fun cs b => hsel i oi cs b hi) (fun cs b => hsel j oj cs b hoj) hf.2 hy h1 hS
      have hfree' : ∀ k ok, ops[k]? = some ok → k ≠ i → (listed.setIfInBounds j true).getD k true = false → D.getD k false = true → oi.apart ops ok = true ∧ (isE et ok = true → st = true) := fun k ok hk hki hun hd => by
        refine hfree k ok hk hki ?_ hd
        by_cases hjk : j = k
        · subst hjk; exact hjun
        · rw [getD_set_ne true hjk] at hun; exact hun
      have hin' : ∀ k, (listed.setIfInBounds j true).getD k false = true → k ≠ i ∧ D.getD k false = true := fun k hk => by
        by_cases hjk : j = k
        · subst hjk; exact ⟨hji, hDj⟩
        · rw [getD_set_ne false hjk] at hk; exact hin k hk
      refine opT_mono (fun a' w' h3 => ih (listed.setIfInBounds j true) a' w' hfree' hin' (ready_mono hr (Ne.symm hji)) h3.2.1 h3.1 ?_) h2
      rw [Array.setIfInBounds_comm _ _ hji]
      exact h3.2.2
def okT (zs : List TypeId) (md : Region.Mode) (ops : Array Oper) (et sl : List Tmp) : List Nat → Array Bool → Bool
  | [], listed => (Region.ready md ops listed).isEmpty
  | i :: ns, listed =>
    (match ops[i]? with
     | none => false
     | some oi =>
       if isE et oi then decide (Region.ready md ops listed = [i])
       else
         let D := before md ops listed i
         (Region.ready md ops listed).contains i && closedB md ops D i &&
         (List.range ops.size).all (fun j => (!listed.getD j false || (j != i && D.getD j false)) && (j == i || listed.getD j true || !D.getD j false ||
           match ops[j]? with
           | none => true
           | some oj => oi.apart ops oj && (!isE et oj || cleanK zs oi.op || inT sl oi)))) &&
    okT zs md ops et sl ns (listed.setIfInBounds i true)
def pickL (l : List Oper) : List Nat → List Oper
  | [] => []
  | n :: ns => match l[n]? with
    | some o => o :: pickL l ns
    | none => pickL l ns
theorem clean_gives {zs : List TypeId} (hz : sizedB P zs = true) {o : Oper} {a : Act} {w : World} {v : Value} (hk : cleanK zs o.op = true) (h : Gives P o a w v) (w2 : World) : Gives P o a w2 v := by
  unfold Gives at *
  obtain ⟨dst, op, type, pos, after, guard⟩ := o
  cases op
  case move x => simpa [execOp] using h
  case assign x => simpa [execOp] using h
  case pick c x y =>
    cases hc : a.eval c <;> simp [execOp, hc, asBool] at h ⊢
    exact h
  case extract t ix =>
    cases ht : a.eval t <;> simp [execOp, ht, Instr.extract] at h ⊢
    rename_i vs
    cases hv : vs[ix]? <;> simp [hv] at h ⊢
    exact h
  case fieldAddr s x i =>
    simp only [cleanK] at hk
    simp only [execOp, Sem.run_bind, Sem.run_pure] at h ⊢
    cases hf : (Instr.fieldAt s (a.eval x) i).run P w with
    | halt y w1 => rw [hf] at h; simp at h
    | ok u w1 =>
      obtain ⟨rfl, h2⟩ := fieldAt_clean hz hk hf w2
      rw [hf] at h
      rw [h2]
      simp only [Result.andThen_ok, Result.ok.injEq, Next.value.injEq] at h ⊢
      exact ⟨h.1, trivial⟩
  all_goals (simp [cleanK] at hk)
theorem wpAnyT_of_order {zs : List TypeId} (hz' : sizedB P zs = true) {QT : Act → World → Prop} (hs : Region.noSelect ops = true) : ∀ (ns : List Nat) (listed : Array Bool) (a : Act) (w : World), listed.size ≤ ops.size → okT zs md ops et sl ns listed = true → S w →
    wpT P ops S et sl QT (pickL ops.toList ns) a w → wpAnyT P md ops S et sl QT ns.length listed a w
  | [], listed, a, w, _, hB, _, h => ⟨by simpa [okT] using hB, h⟩
  | i :: ns, listed, a, w, hz, hB, hS, h => by
    simp only [okT, Bool.and_eq_true] at hB
    obtain ⟨hB1, hB2⟩ := hB
    cases hi : ops[i]? with
    | none => rw [hi] at hB1; simp at hB1
    | some oi =>
      rw [hi] at hB1
      have hl : ops.toList[i]? = some oi := by simpa using hi
      simp only [pickL, hl, wpT] at h
      by_cases hE : isE et oi = true
      · simp only [hE, if_true, decide_eq_true_eq] at hB1
        refine ⟨fun h0 => (by rw [hB1] at h0; cases h0), fun j hj => ?_⟩
        rw [hB1] at hj
        have hj' : j = i := by simpa using hj
        subst hj'
        have goal : opT P ops S et sl oi (wpAnyT P md ops S et sl QT ns.length (listed.setIfInBounds j true)) a w := by
          unfold opT at h ⊢
          by_cases hw : Region.wanted oi (yielded ops a.tmps) = true
          · rw [if_pos hw, if_pos hE] at h
            rw [if_pos hw, if_pos hE]
            exact Oper.wp_mono (fun a' w' h' => ⟨h'.1, wpAnyT_of_order hz' hs ns _ a' w' (by simpa using hz) hB2 h'.1 h'.2⟩) h
          · rw [if_neg hw] at h
            rw [if_neg hw]
            exact wpAnyT_of_order hz' hs ns _ _ _ (by simpa using hz) hB2 hS h
        unfold opAt
        rw [hi]
        exact goal
      · have hE' : isE et oi = false := by simpa using hE
        simp only [hE', Bool.false_eq_true, if_false, Bool.and_eq_true] at hB1
        obtain ⟨⟨hr, hcl⟩, hall⟩ := hB1
        have hall' := fun j oj (hj : ops[j]? = some oj) => List.all_eq_true.1 hall j (List.mem_range.2 (Array.getElem?_eq_some_iff.1 hj).1)
        have hy : ∃ v, YT P ops S (cleanK zs oi.op || inT sl oi) oi v a w ∧ wpT P ops S et sl QT (pickL ops.toList ns) (a.put oi.dst v) w := by
          unfold opT at h
          by_cases hw : Region.wanted oi (yielded ops a.tmps) = true
          · rw [if_pos hw, if_neg hE] at h
            obtain ⟨v, h1, h2, h3⟩ := h
            refine ⟨v, .inl ⟨hw, h1, fun hst w2 hw2 => ?_⟩, h3⟩
            rcases Bool.or_eq_true _ _ ▸ hst with hk | hk
            · exact clean_gives hz' hk h1 w2
            · exact h2 hk w2 hw2
          · rw [if_neg hw] at h
            exact ⟨undef, .inr ⟨by simpa using hw, rfl⟩, h⟩
        obtain ⟨v, hy, hK⟩ := hy
        refine wpAnyT_first hi (Region.noSelect_spec hs) hE' (fun hsl => by simp [hsl]) hcl ns.length listed a w ?_ ?_ (by simpa using hr) hy hS (wpAnyT_of_order hz' hs ns _ _ _ (by simpa using hz) hB2 hS hK)
        · intro j oj hj hne hun hd
          have h1 := (Bool.and_eq_true _ _ ▸ hall' j oj hj).2
          simp only [hj, hne, hun, hd, Bool.or_eq_true, beq_iff_eq, Bool.and_eq_true, Bool.not_eq_true', false_or, Bool.false_eq_true, Bool.true_eq_false] at h1
          refine ⟨h1.1, fun he => ?_⟩
          rcases h1.2 with (h2 | h2) | h2
          · rw [he] at h2; cases h2
          · simp [h2]
          · simp [h2]
        · intro j hj
          have hlt : j < ops.size := by
            rcases Nat.lt_or_ge j listed.size with h' | h'
            · omega
            · simp [Array.getElem?_eq_none h'] at hj
          have h1 := List.all_eq_true.1 hall j (List.mem_range.2 hlt)
          simp only [hj, Bool.and_eq_true, Bool.or_eq_true, Bool.not_true, Bool.false_eq_true, false_or, bne_iff_ne] at h1
          exact h1.1
theorem wp_region_T {id : Nat} {a : Act} {w : World} {l : List Oper} (S : World → Prop) (zs : List TypeId) (et sl : List Tmp) (ns : List Nat) (hz : sizedB P zs = true) (hm : P.follows .mixedOrders = true)
    (hB : (Region.noSelect l.toArray && decide (ns.length = l.length) && okT zs .any l.toArray et sl ns (Array.replicate l.length false)) = true) (hS : S w.drew)
    (h : wpT P l.toArray S et sl (fun a' w' => Q .normal a' w') (pickL l ns) a w.drew) : (Code.region id l.toArray true).wp P Q a w := by
  simp only [Bool.and_eq_true, decide_eq_true_eq] at hB
  obtain ⟨⟨hs, hl⟩, hB⟩ := hB
  refine wp_region_any hm ?_
  have h1 := wpAnyT_of_order (P := P) (md := .any) (S := S) (et := et) (sl := sl) (QT := fun a' w' => Q .normal a' w') hz hs ns (Array.replicate l.length false) a w.drew (by simp) hB hS (by simpa using h)
  have h2 := wpAny_of_T (P := P) (Q := Q) (fun _ _ h => h) _ _ _ _ h1
  rw [hl] at h2
  simpa using h2
theorem wpT_nil {QT : Act → World → Prop} {a : Act} {w : World} (h : QT a w) : wpT P ops S et sl QT [] a w := h
theorem exec_value {o : Oper} {a : Act} {w w' : World} {n : Next} (he : isE et o = false) (h : (execOp a.eval o).run P w = .ok n w') : ∃ v, n = .value v := by
  obtain ⟨dst, op, type, pos, after, guard⟩ := o
  have he' : isEop op = false := by
    simp only [isE, Bool.or_eq_false_iff] at he; exact he.1
  have key : ∀ (s : Sem Value), (do pure (Next.value (← s)) : Sem Next).run P w = .ok n w' → ∃ v, n = .value v := fun s hs => by
    simp only [Sem.run_bind, Sem.run_pure] at hs
    generalize s.run P w = r at hs
    cases r with
    | ok v w2 => simp at hs; exact ⟨v, hs.1.symm⟩
    | halt x w2 => simp at hs
  cases op
  case call c =>
    obtain ⟨callee, args, ats⟩ := c
    cases callee with
    | builtin b =>
      rw [BigFrame.execOp_builtin] at h
      cases b <;> simp [isEop] at he'
      · rw [BigFrame.builtin_cap] at h; exact key _ h
      · rw [BigFrame.builtin_len] at h; exact key _ h
    | value f => simp [isEop] at he'
    | invoke f m => simp [isEop] at he'
  case move x => simp [execOp] at h; exact ⟨_, h.1.symm⟩
  case assign x => simp [execOp] at h; exact ⟨_, h.1.symm⟩
  case pick c x y =>
    simp only [execOp, Sem.run_bind, Sem.run_pure] at h
    generalize (asBool (a.eval c)).run P w = r at h
    cases r with
    | ok v w2 => simp at h; exact ⟨_, h.1.symm⟩
    | halt x w2 => simp at h
  case nilCheck x =>
    simp only [execOp] at h
    split at h
    · simp [runtimePanic] at h
    · simp [runtimePanic] at h
    · simp [runtimePanic] at h
    · split at h
      · simp [runtimePanic] at h
      · simp only [Sem.run_bind] at h
        generalize hq : (Sem.run P _ w) = r at h
        cases r with
        | ok v w2 =>
          simp only [Result.andThen_ok] at h
          generalize hq2 : (Sem.run P _ w2) = r2 at h
          cases r2 with
          | ok v2 w3 =>
            simp only [Result.andThen_ok] at h
            split at h
            · simp at h
            · simp at h; exact ⟨_, h.1.symm⟩
          | halt y w3 => simp at h
        | halt y w2 => simp at h
      · simp at h; exact ⟨_, h.1.symm⟩
    · simp at h; exact ⟨_, h.1.symm⟩
  all_goals first
    | exact key _ h
    | (simp [isEop] at he'; done)
theorem wpT_q {QT : Act → World → Prop} {o : Oper} {rest : List Oper} {a : Act} {w : World} (he : isE et o = false) (hs : inT sl o = false)
    (h : ∀ K : Act → World → Prop, (∀ a', wpT P ops S et sl QT rest a' w → K a' w) → if Region.wanted o (yielded ops a.tmps) then o.wp P a w K Qf else K (a.put o.dst undef) w) : wpT P ops S et sl QT (o :: rest) a w := by
  have h1 := h (fun a' w' => w' = w ∧ wpT P ops S et sl QT rest a' w) (fun a' h => ⟨rfl, h⟩)
  unfold wpT opT
  split
  · rename_i hw
    rw [if_pos hw] at h1
    rw [if_neg (by simp [he])]
    unfold Oper.wp at h1
    unfold Gives
    generalize hr : (execOp a.eval o).run P w = r at h1
    cases r with
    | ok n w' =>
      obtain ⟨v, rfl⟩ := exec_value he hr
      simp only [Oper.upon] at h1
      obtain ⟨rfl, h2⟩ := h1
      exact ⟨v, rfl, by simp [hs], h2⟩
    | halt x w' =>
      exfalso
      cases x <;> simp only [Oper.upon] at h1
      exact h1
  · rename_i hw
    rw [if_neg hw] at h1
    exact h1.2
theorem wpT_s {QT : Act → World → Prop} {o : Oper} {rest : List Oper} {a : Act} {w : World} (v : Value) (he : isE et o = false) (hg : o.guard = none) (hv : Gives P o a w v) (hs : ∀ w2, S w2 → Gives P o a w2 v)
    (h : wpT P ops S et sl QT rest (a.put o.dst v) w) : wpT P ops S et sl QT (o :: rest) a w := by
  unfold wpT opT
  rw [if_pos (by simp [Region.wanted, hg]), if_neg (by simp [he])]
  exact ⟨v, hv, fun _ => hs, h⟩
theorem wpT_e {QT : Act → World → Prop} {o : Oper} {rest : List Oper} {a : Act} {w : World} (he : isE et o = true)
    (h : ∀ K : Act → World → Prop, (∀ a' w', S w' ∧ wpT P ops S et sl QT rest a' w' → K a' w') → if Region.wanted o (yielded ops a.tmps) then o.wp P a w K Qf else K (a.put o.dst undef) w) : wpT P ops S et sl QT (o :: rest) a w := by
  have h1 := h (fun a' w' => S w' ∧ wpT P ops S et sl QT rest a' w') (fun a' w' h => h)
  unfold wpT opT
  split
  · rename_i hw
    rw [if_pos hw] at h1
    first | exact h1 | (rw [if_pos he]; exact h1)
  · rename_i hw
    rw [if_neg hw] at h1
    exact h1.2
theorem wpT_e0 {QT : Act → World → Prop} {o : Oper} {rest : List Oper} {a : Act} {w : World} (he : isE et o = true)
    (h : ∀ K : Act → World → Prop, (∀ a' w', wpT P ops (fun _ => True) et sl QT rest a' w' → K a' w') → if Region.wanted o (yielded ops a.tmps) then o.wp P a w K Qf else K (a.put o.dst undef) w) : wpT P ops (fun _ => True) et sl QT (o :: rest) a w :=
  wpT_e he fun K hK => h K fun a' w' h' => hK a' w' ⟨trivial, h'⟩
/-! The same, by what the guard says. -/
theorem yielded_list (l : List Oper) (ts : List Value) (ds : List Deferred) (j : Nat) (t : Tmp) (b : Bool) (hd : (l[j]?).bind (·.dst) = some t) (ht : ts[t]? = some (.bool b)) : yielded l.toArray (⟨ts.toArray, ds⟩ : Act).tmps j = some b := by
  unfold yielded
  simp [hd, ht]
theorem wanted_yes {l : List Oper} {ts : List Value} {ds : List Deferred} {o : Oper} (j : Nat) (want : Bool) (t : Tmp) (hg : o.guard = some (j, want)) (hd : (l[j]?).bind (·.dst) = some t) (ht : ts[t]? = some (.bool want)) :
    Region.wanted o (yielded l.toArray (⟨ts.toArray, ds⟩ : Act).tmps) = true := by
  simp [Region.wanted, hg, yielded_list l ts ds j t want hd ht]
theorem wanted_no {l : List Oper} {ts : List Value} {ds : List Deferred} {o : Oper} (j : Nat) (want : Bool) (t : Tmp) (hg : o.guard = some (j, want)) (hd : (l[j]?).bind (·.dst) = some t) (ht : ts[t]? = some (.bool (!want))) :
    Region.wanted o (yielded l.toArray (⟨ts.toArray, ds⟩ : Act).tmps) = false := by
  simp [Region.wanted, hg, yielded_list l ts ds j t (!want) hd ht]
theorem wanted_un {l : List Oper} {ts : List Value} {ds : List Deferred} {o : Oper} (j : Nat) (want : Bool) (t : Tmp) (hg : o.guard = some (j, want)) (hd : (l[j]?).bind (·.dst) = some t) (ht : ts[t]? = some undef) :
    Region.wanted o (yielded l.toArray (⟨ts.toArray, ds⟩ : Act).tmps) = false := by
  simp [Region.wanted, hg, yielded, hd, ht, undef]
theorem wpT_q0 {QT : Act → World → Prop} {o : Oper} {rest : List Oper} {a : Act} {w : World} (hg : o.guard = none) (he : isE et o = false) (hs : inT sl o = false)
    (h : ∀ K : Act → World → Prop, (∀ a', wpT P ops S et sl QT rest a' w → K a' w) → o.wp P a w K Qf) : wpT P ops S et sl QT (o :: rest) a w :=
  wpT_q he hs fun K hK => by rw [if_pos (by simp [Region.wanted, hg])]; exact h K hK
theorem wpT_q1 {QT : Act → World → Prop} {o : Oper} {rest : List Oper} {a : Act} {w : World} (hg : Region.wanted o (yielded ops a.tmps) = true) (he : isE et o = false) (hs : inT sl o = false)
    (h : ∀ K : Act → World → Prop, (∀ a', wpT P ops S et sl QT rest a' w → K a' w) → o.wp P a w K Qf) : wpT P ops S et sl QT (o :: rest) a w :=
  wpT_q he hs fun K hK => by rw [if_pos hg]; exact h K hK
theorem wpT_no {QT : Act → World → Prop} {o : Oper} {rest : List Oper} {a : Act} {w : World} (hg : Region.wanted o (yielded ops a.tmps) = false)
    (h : wpT P ops S et sl QT rest (a.put o.dst undef) w) : wpT P ops S et sl QT (o :: rest) a w := by
  unfold wpT opT
  rw [if_neg (by simp [hg])]
  exact h
def setO (ts : List Value) : Option Tmp → List Value
  | some d => ts.set d undef
  | none => ts
theorem wpT_noL {QT : Act → World → Prop} {o : Oper} {rest : List Oper} {ts : List Value} {ds : List Deferred} {w : World} (hg : Region.wanted o (yielded ops (⟨ts.toArray, ds⟩ : Act).tmps) = false)
    (h : wpT P ops S et sl QT rest ⟨(setO ts o.dst).toArray, ds⟩ w) : wpT P ops S et sl QT (o :: rest) ⟨ts.toArray, ds⟩ w := by
  refine wpT_no hg ?_
  cases hd : o.dst with
  | none => simpa [hd, Act.put, setO] using h
  | some d => simpa [hd, Act.put, setO] using h
theorem wpT_x0 {QT : Act → World → Prop} {o : Oper} {rest : List Oper} {a : Act} {w : World} (hg : o.guard = none) (he : isE et o = true)
    (h : ∀ K : Act → World → Prop, (∀ a' w', wpT P ops (fun _ => True) et sl QT rest a' w' → K a' w') → o.wp P a w K Qf) : wpT P ops (fun _ => True) et sl QT (o :: rest) a w :=
  wpT_e0 he fun K hK => by rw [if_pos (by simp [Region.wanted, hg])]; exact h K hK
theorem wpT_x1 {QT : Act → World → Prop} {o : Oper} {rest : List Oper} {a : Act} {w : World} (hg : Region.wanted o (yielded ops a.tmps) = true) (he : isE et o = true)
    (h : ∀ K : Act → World → Prop, (∀ a' w', wpT P ops (fun _ => True) et sl QT rest a' w' → K a' w') → o.wp P a w K Qf) : wpT P ops (fun _ => True) et sl QT (o :: rest) a w :=
  wpT_e0 he fun K hK => by rw [if_pos hg]; exact h K hK
theorem wpT_xs0 {QT : Act → World → Prop} {o : Oper} {rest : List Oper} {a : Act} {w : World} (hg : o.guard = none) (he : isE et o = true)
    (h : ∀ K : Act → World → Prop, (∀ a' w', S w' ∧ wpT P ops S et sl QT rest a' w' → K a' w') → o.wp P a w K Qf) : wpT P ops S et sl QT (o :: rest) a w :=
  wpT_e he fun K hK => by rw [if_pos (by simp [Region.wanted, hg])]; exact h K hK
theorem wpT_xs1 {QT : Act → World → Prop} {o : Oper} {rest : List Oper} {a : Act} {w : World} (hg : Region.wanted o (yielded ops a.tmps) = true) (he : isE et o = true)
    (h : ∀ K : Act → World → Prop, (∀ a' w', S w' ∧ wpT P ops S et sl QT rest a' w' → K a' w') → o.wp P a w K Qf) : wpT P ops S et sl QT (o :: rest) a w :=
  wpT_e he fun K hK => by rw [if_pos hg]; exact h K hK
end
structure Since (w0 w2 : World) : Prop where
  size : w0.heap.size ≤ w2.heap.size
  block : ∀ b, b < w0.heap.size → w2.heap[b]? = w0.heap[b]?
theorem Since.refl (w : World) : Since w w := ⟨Nat.le_refl _, fun _ _ => rfl⟩
theorem Since.drew (w : World) : Since w w.drew := ⟨Nat.le_refl _, fun _ _ => rfl⟩
theorem Since.drewR {w0 w : World} (h : Since w0 w) : Since w0 w.drew := ⟨h.size, h.block⟩
theorem Since.below {w0 w w' : World} (h : Since w0 w) (hb : Below w.heap.size w w') : Since w0 w' :=
  ⟨Nat.le_trans h.size hb.size, fun b hb' => (hb.block b (Nat.lt_of_lt_of_le hb' h.size)).trans (h.block b hb')⟩
theorem Since.alloc {w0 w : World} (h : Since w0 w) (o : Obj) : Since w0 (w.alloc o) := h.below ((Below.refl _ _).alloc (Nat.le_refl _) o)
theorem Since.cell {w0 w : World} (h : Since w0 w) {p : Addr} {v : Value} (hp : p.block < w0.heap.size) (hc : w0.cell? p = some v) : w.cell? p = some v :=
  (World.cell?_of_block (h.block p.block hp)).trans hc
theorem Since.and_ {w0 w : World} {R : Prop} (h : Since w0 w) (k : Since w0 w → R) : Since w0 w ∧ R := ⟨h, k h⟩
theorem lt_of_cell {w : World} {p : Addr} {v : Value} (h : w.cell? p = some v) : p.block < w.heap.size := by
  rcases Nat.lt_or_ge p.block w.heap.size with h1 | h1
  · exact h1
  · simp [World.cell?, Array.getElem?_eq_none h1] at h
theorem run_load_since {P : Program} {w w2 : World} {b : Nat} {cs : Array Value} {e : TypeId} {fz : Nat × Nat} (h1 : w.heap[b]? = some (.cells cs e fz)) (h2 : w2.heap[b]? = some (.cells cs e fz)) {p : Addr} (hp : p.block = b) {v : Value} {m : Mode}
    (h : (load p m).run P w = .ok v w) : (load p m).run P w2 = .ok v w2 := by
  subst hp
  have hc : w2.cell? p = w.cell? p := by simp [World.cell?, h1, h2]
  rw [run_load] at h ⊢
  rw [hc]
  cases hv : w.cell? p with
  | some u => rw [hv] at h; simp at h ⊢; exact h
  | none =>
    rw [hv] at h
    simp [World.farLoad, h1] at h
theorem run_loadCells_since {P : Program} {w w2 : World} {cs : Array Value} {e : TypeId} {fz : Nat × Nat} {p : Addr} (h1 : w.heap[p.block]? = some (.cells cs e fz)) (h2 : w2.heap[p.block]? = some (.cells cs e fz)) :
    ∀ (n i : Nat) (acc r : Array Value), (loadCellsFrom p i n acc).run P w = .ok r w → (loadCellsFrom p i n acc).run P w2 = .ok r w2
  | 0, i, acc, r, h => by simpa [loadCellsFrom] using h
  | n + 1, i, acc, r, h => by
    simp only [loadCellsFrom, Sem.run_bind] at h ⊢
    have hb : (p.add i).block = p.block := by unfold Addr.add; split <;> rfl
    cases hl : (load (p.add i)).run P w with
    | halt x w' => rw [hl] at h; simp at h
    | ok u w' =>
      have hw : w' = w := by
        rw [run_load] at hl
        split at hl
        · simp at hl; exact hl.2.symm
        · simp [World.farLoad, hb, h1] at hl
      subst hw
      rw [hl] at h
      rw [run_load_since (by rw [hb]; exact h1) (by rw [hb]; exact h2) rfl hl]
      exact run_loadCells_since h1 h2 n (i + 1) _ r h
theorem gives_load {P : Program} {o : Oper} {a : Act} {w w0 : World} {p : Addr} {u v : Value} {t : TypeId} {x : Operand} (ho : o.op = .load t x) (hx : a.eval x = .pointer (some p)) (hc : w.cell? p = some u) (hp : p.block < w0.heap.size) (hS : Since w0 w) (hg : Gives P o a w v) :
    ∀ w2, Since w0 w2 → Gives P o a w2 v := by
  intro w2 h2
  obtain ⟨cs, e, fz, hh⟩ : ∃ cs e fz, w.heap[p.block]? = some (.cells cs e fz) := by
    unfold World.cell? at hc
    split at hc
    · rename_i cs e fz hh; exact ⟨cs, e, fz, hh⟩
    · cases hc
  have hh2 : w2.heap[p.block]? = some (.cells cs e fz) := (h2.block _ hp).trans ((hS.block _ hp).symm.trans hh)
  unfold Gives at *
  obtain ⟨dst, op, type, pos, after, guard⟩ := o
  simp only at ho
  subst ho
  simp only [execOp, hx, Instr.loadAt, Instr.sureAddr, Sem.run_bind, Sem.run_pure, Result.andThen_ok, loadVar] at hg ⊢
  cases hi : (isAgg t).run P w with
  | halt x w1 => rw [hi] at hg; simp at hg
  | ok b w1 =>
    obtain ⟨rfl, hi2⟩ := free_isAgg P t w w2 b w1 hi
    rw [hi] at hg
    rw [hi2]
    simp only [Result.andThen_ok] at hg ⊢
    cases b
    · simp only [Bool.false_eq_true, if_false] at hg ⊢
      cases hl : (load p).run P w1 with
      | halt x w3 => rw [hl] at hg; simp at hg
      | ok u' w3 =>
        rw [hl] at hg
        simp only [Result.andThen_ok, Result.ok.injEq, Next.value.injEq] at hg
        obtain ⟨rfl, rfl⟩ := hg
        rw [run_load_since hh hh2 rfl hl]
        rfl
    · simp only [if_true, Sem.run_bind, Sem.run_pure] at hg ⊢
      cases hs : (sizeOf t).run P w1 with
      | halt x w3 => rw [hs] at hg; simp at hg
      | ok n w3 =>
        obtain ⟨rfl, hs2⟩ := free_sizeOf P t w1 w2 n w3 hs
        rw [hs] at hg
        rw [hs2]
        simp only [Result.andThen_ok, loadCells] at hg ⊢
        cases hl : (loadCellsFrom p 0 n #[]).run P w3 with
        | halt x w4 => rw [hl] at hg; simp at hg
        | ok r w4 =>
          rw [hl] at hg
          simp only [Result.andThen_ok, Result.ok.injEq, Next.value.injEq] at hg
          obtain ⟨rfl, rfl⟩ := hg
          rw [run_loadCells_since hh hh2 n 0 #[] r hl]
          rfl
theorem wpT_l {P : Program} {ops : Array Oper} {et sl : List Tmp} {QT : Act → World → Prop} {o : Oper} {rest : List Oper} {a : Act} {w w0 : World} {t : TypeId} (x : Operand) (p : Addr) (hg : o.guard = none) (ho : o.op = .load t x) (het : inT et o = false) (hx : a.eval x = .pointer (some p))
    (hS : Since w0 w) (hp : p.block < w0.heap.size) (hc : (w.cell? p).isSome = true)
    (h : ∀ K : Act → World → Prop, (∀ a', wpT P ops (Since w0) et sl QT rest a' w → K a' w) → o.wp P a w K Qf) : wpT P ops (Since w0) et sl QT (o :: rest) a w := by
  have h1 := h (fun a' w' => w' = w ∧ wpT P ops (Since w0) et sl QT rest a' w') (fun a' h => ⟨rfl, h⟩)
  have he : isE et o = false := by simp [isE, isEop, ho, het]
  obtain ⟨u, hc⟩ := Option.isSome_iff_exists.1 hc
  unfold Oper.wp at h1
  generalize hr : (execOp a.eval o).run P w = r at h1
  cases r with
  | ok n w' =>
    obtain ⟨v, rfl⟩ := exec_value he hr
    simp only [Oper.upon] at h1
    obtain ⟨rfl, h2⟩ := h1
    exact wpT_s v he hg hr (gives_load ho hx hc hp hS hr) h2
  | halt y w' =>
    exfalso
    cases y <;> simp only [Oper.upon] at h1
    exact h1
def okInt (op : BinOp) (j : Int) : Bool := match op with
  | .shl | .shr => false
  | .quo | .rem => j != 0
  | _ => true
theorem gives_int {P : Program} {o : Oper} {a : Act} {w : World} {v : Value} {op : BinOp} {t r : TypeId} {x y : Operand} {k k' : IntKind} {i j : Int} (ho : o.op = .binOp op t x y r) (hx : a.eval x = .int k i) (hy : a.eval y = .int k' j) (hj : okInt op j = true) (hg : Gives P o a w v) :
    ∀ w2, Gives P o a w2 v := by
  intro w2
  unfold Gives at *
  obtain ⟨dst, op', type, pos, after, guard⟩ := o
  simp only at ho
  subst ho
  cases op <;> simp [okInt] at hj <;> simp [execOp, hx, hy, binOp, eqGuard, Op.intArith, Op.intDiv, Op.intBits, Op.intCmp, hj] at hg ⊢ <;> (try split at hg) <;> (try split at hg) <;> simp_all
def AtInt (et : List Tmp) (o : Oper) (a : Act) : Prop := ∃ op t x y r k k' i j, o.guard = none ∧ inT et o = false ∧ o.op = .binOp op t x y r ∧ a.eval x = .int k i ∧ a.eval y = .int k' j ∧ okInt op j = true
theorem wpT_b {P : Program} {ops : Array Oper} {S : World → Prop} {et sl : List Tmp} {QT : Act → World → Prop} {o : Oper} {rest : List Oper} {a : Act} {w : World} (h0 : AtInt et o a)
    (h : ∀ K : Act → World → Prop, (∀ a', wpT P ops S et sl QT rest a' w → K a' w) → o.wp P a w K Qf) : wpT P ops S et sl QT (o :: rest) a w := by
  obtain ⟨op, t, x, y, r, k, k', i, j, hg, het, ho, hx, hy, hj⟩ := h0
  have h1 := h (fun a' w' => w' = w ∧ wpT P ops S et sl QT rest a' w') (fun a' h => ⟨rfl, h⟩)
  have he : isE et o = false := by simp [isE, isEop, ho, het]
  unfold Oper.wp at h1
  generalize hr : (execOp a.eval o).run P w = r at h1
  cases r with
  | ok n w' =>
    obtain ⟨v, rfl⟩ := exec_value he hr
    simp only [Oper.upon] at h1
    obtain ⟨rfl, h2⟩ := h1
    exact wpT_s v he hg hr (fun w2 _ => gives_int ho hx hy hj hr w2) h2
  | halt y w' =>
    exfalso
    cases y <;> simp only [Oper.upon] at h1
    exact h1
structure Lft (Q : Prop) : Prop where
  out : Q
section
variable {Q P : Prop}
theorem g1_ (k : Q) (h : Lft Q → P := by first | (intro k_; (((with_reducible refine wpT_noL ?_ ?_); (focus (first | exact wanted_no _ _ _ rfl rfl rfl | exact wanted_un _ _ _ rfl rfl rfl)); simp only [setO, List.set_cons_succ, List.set_cons_zero])); with_reducible exact k_.out) | fail) : P := h ⟨k⟩
theorem g2_ (k : Q) (h : Lft Q → P := by first | (intro k_; (first | ((with_reducible refine wpT_q1 ?_ ?_ ?_ ?_); (focus exact wanted_yes _ _ _ rfl rfl rfl); (focus rfl); (focus rfl)) | ((with_reducible refine wpT_x1 ?_ ?_ ?_); (focus exact wanted_yes _ _ _ rfl rfl rfl); (focus rfl))); with_reducible exact k_.out) | fail) : P := h ⟨k⟩
theorem g3_ (k : Q) (h : Lft Q → P := by first | (intro k_; (((with_reducible refine wpT_nil ?_); try dsimp only)); with_reducible exact k_.out) | fail) : P := h ⟨k⟩
theorem g4_ (k : Q) (h : Lft Q → P := by first | (intro k_; ((with_reducible refine Since.and_ ?_ ?_; (focus (repeat (first | (with_reducible exact Since.refl _) | assumption | (with_reducible refine Since.drewR ?_) | (with_reducible refine Since.alloc ?_ _) | ((with_reducible apply Since.below); rotate_left; (focus assumption))))))); with_reducible exact k_.out) | fail) : P := h ⟨k⟩
theorem g6_ (k : Q) (h : Lft Q → P := by first | (intro k_; (first | ((with_reducible refine wpT_q1 ?_ ?_ ?_ ?_); (focus exact wanted_yes _ _ _ rfl rfl rfl); (focus rfl); (focus rfl)) | ((with_reducible refine wpT_xs1 ?_ ?_ ?_); (focus exact wanted_yes _ _ _ rfl rfl rfl); (focus rfl))); with_reducible exact k_.out) | fail) : P := h ⟨k⟩
theorem g24_ (k : Q) (h : Lft Q → P := by first | (intro k_; (first | ((with_reducible refine wpT_q0 ?_ ?_ ?_ ?_); (focus rfl); (focus rfl); (focus rfl)) | ((with_reducible refine wpT_x0 ?_ ?_ ?_); (focus rfl); (focus rfl))); with_reducible exact k_.out) | fail) : P := h ⟨k⟩
theorem g25_ (k : Q) (h : Lft Q → P := by first | (intro k_; (first | ((with_reducible refine wpT_q0 ?_ ?_ ?_ ?_); (focus rfl); (focus rfl); (focus rfl)) | ((with_reducible apply wpT_l); (focus rfl); (focus rfl); (focus rfl); (focus rfl); (focus (first | exact Since.drew _ | assumption)); (focus (simp <;> omega)); (focus go_simp)) | ((with_reducible refine wpT_xs0 ?_ ?_ ?_); (focus rfl); (focus rfl))); with_reducible exact k_.out) | fail) : P := h ⟨k⟩
theorem g27_ (k : Q) (h : Lft Q → P := by first | (intro k_; (first | ((with_reducible refine wpT_q0 ?_ ?_ ?_ ?_); (focus rfl); (focus rfl); (focus rfl)) | ((with_reducible apply wpT_l); (focus rfl); (focus rfl); (focus rfl); (focus rfl); (focus (first | exact Since.drew _ | assumption)); (focus (simp <;> omega)); (focus go_simp)) | ((with_reducible apply wpT_lw); (focus exact wanted_yes _ _ _ rfl rfl rfl); (focus rfl); (focus rfl); (focus rfl); (focus (first | exact Since.drew _ | assumption)); (focus (simp <;> omega)); (focus go_simp)) | ((with_reducible refine wpT_xs0 ?_ ?_ ?_); (focus rfl); (focus rfl)) | ((with_reducible refine wpT_q1 ?_ ?_ ?_ ?_); (focus exact wanted_yes _ _ _ rfl rfl rfl); (focus rfl); (focus rfl)) | ((with_reducible refine wpT_xs1 ?_ ?_ ?_); (focus exact wanted_yes _ _ _ rfl rfl rfl); (focus rfl))); with_reducible exact k_.out) | fail) : P := h ⟨k⟩
end
end Go.Proofs.Ytopmbnnjhoinkaa.Rg
namespace Go.Proofs.Ytopmbnnjhoinkaa
open Go Go.RowKit
theorem keepc {w w' : World} (hb : Below w.heap.size w w') {p : Addr} {v : Value} (h : w.cell? p = some v) : w'.cell? p = some v := by
  refine (hb.cell ?_).trans h
  rcases Nat.lt_or_ge p.block w.heap.size with h1 | h1
  · exact h1
  · simp [World.cell?, Array.getElem?_eq_none h1] at h
def Sl {α : Type} (enc : α → List Value) (sz : Nat) (w : World) (lo hi : Nat) (A : Option Addr) (xs : List α) : Prop :=
  xs ≠ [] → ∃ b off, A = some ⟨b, off, none⟩ ∧ lo ≤ b ∧ b < hi ∧ ∀ (i : Nat) (x : α), xs[i]? = some x → ∀ (j : Nat) (u : Value), (enc x)[j]? = some u → w.cell? ⟨b, off + i * sz + j, none⟩ = some u
section
variable {α : Type} {enc : α → List Value} {sz : Nat} {w w' : World} {lo hi : Nat} {A : Option Addr} {xs ys : List α}
theorem Sl.nil_ : Sl enc sz w lo hi A [] := fun h => absurd rfl h
theorem Sl.keep (h : Sl enc sz w lo hi A xs) (hk : ∀ b, lo ≤ b → b < hi → w'.heap[b]? = w.heap[b]?) : Sl enc sz w' lo hi A xs := fun hne => by
  obtain ⟨b, off, rfl, h1, h2, h3⟩ := h hne
  exact ⟨b, off, rfl, h1, h2, fun i x hx j u hu => (World.cell?_of_block (hk b h1 h2)).trans (h3 i x hx j u hu)⟩
theorem Sl.below {B : Nat} (h : Sl enc sz w lo hi A xs) (hb : Below B w w') (hB : hi ≤ B) : Sl enc sz w' lo hi A xs :=
  h.keep fun b _ h2 => hb.block b (by omega)
theorem Sl.mono {lo' hi' : Nat} (h : Sl enc sz w lo hi A xs) (hl : lo' ≤ lo) (hh : hi ≤ hi') : Sl enc sz w lo' hi' A xs := fun hne => by
  obtain ⟨b, off, rfl, h1, h2, h3⟩ := h hne
  exact ⟨b, off, rfl, by omega, by omega, h3⟩
theorem Sl.addr (h : Sl enc sz w lo hi A xs) {k : Nat} (hk : k < xs.length) : ∃ b off, A = some ⟨b, off, none⟩ ∧ lo ≤ b ∧ b < hi := by
  obtain ⟨b, off, rfl, h1, h2, _⟩ := h (by rintro rfl; simp at hk)
  exact ⟨b, off, rfl, h1, h2⟩
theorem Sl.at_ {b off : Nat} (h : Sl enc sz w lo hi (some ⟨b, off, none⟩) xs) {k : Nat} (hk : k < xs.length) : ∀ (j : Nat) (u : Value), (enc xs[k])[j]? = some u → w.cell? ⟨b, off + k * sz + j, none⟩ = some u := by
  obtain ⟨b', off', he, _, _, h3⟩ := h (by rintro rfl; simp at hk)
  injection he with he
  injection he with e1 e2
  subst e1; subst e2
  exact h3 k xs[k] (List.getElem?_eq_getElem hk)
theorem Sl.take_ (h : Sl enc sz w lo hi A xs) (n : Nat) : Sl enc sz w lo hi A (xs.take n) := fun hne => by
  obtain ⟨b, off, rfl, h1, h2, h3⟩ := h (by rintro rfl; simp at hne)
  refine ⟨b, off, rfl, h1, h2, fun k x hk j u hu => h3 k x ?_ j u hu⟩
  rw [List.getElem?_take] at hk
  split at hk
  · exact hk
  · cases hk
end
def Own {α : Type} (enc : α → List Value) (sz : Nat) (e : TypeId) (w : World) (lo : Nat) (v : Value) (xs : List α) : Prop :=
  (v = .slice none 0 0 ∧ xs.length = 0) ∨
  ∃ g cap cur, v = .slice (some ⟨g, 0, none⟩) xs.length cap ∧ lo ≤ g ∧ w.heap[g]? = some (.cells cur e (0, 0)) ∧ xs.length ≤ cap ∧ cap ≤ maxLen ∧ cap * sz ≤ cur.size ∧ cur.toList.take (xs.length * sz) = xs.flatMap enc
theorem flatMap_len {α : Type} {enc : α → List Value} {sz : Nat} (hl : ∀ x, (enc x).length = sz) (xs : List α) : (xs.flatMap enc).length = xs.length * sz := by
  induction xs with
  | nil => simp
  | cons x xs ih => simp [List.flatMap_cons, ih, hl, Nat.add_mul, Nat.add_comm]
theorem flatMap_get {α : Type} {enc : α → List Value} {sz : Nat} (hl : ∀ x, (enc x).length = sz) : ∀ (xs : List α) (i : Nat) (x : α), xs[i]? = some x → ∀ j u, (enc x)[j]? = some u → (xs.flatMap enc)[i * sz + j]? = some u
  | [], i, x, h, j, u, hu => by simp at h
  | y :: xs, 0, x, h, j, u, hu => by
    simp at h; subst h
    have hj : j < (enc y).length := (List.getElem?_eq_some_iff.1 hu).1
    rw [List.flatMap_cons, Nat.zero_mul, Nat.zero_add, List.getElem?_append_left hj]
    exact hu
  | y :: xs, i + 1, x, h, j, u, hu => by
    rw [List.flatMap_cons, List.getElem?_append_right (by rw [hl, Nat.add_mul]; omega), hl, Nat.add_mul, show i * sz + 1 * sz + j - sz = i * sz + j by omega]
    exact flatMap_get hl xs i x (by simpa using h) j u hu
section
variable {α : Type} {enc : α → List Value} {sz : Nat} {e : TypeId} {w w' : World} {lo : Nat} {v : Value} {xs ys : List α}
theorem lt_of_heap {w : World} {g : Nat} {o : Obj} (h : w.heap[g]? = some o) : g < w.heap.size := (Array.getElem?_eq_some_iff.1 h).1
theorem Own.nil_ (enc : α → List Value) (sz : Nat) (e : TypeId) (w : World) (lo : Nat) : Own enc sz e w lo (.slice none 0 0) [] := .inl ⟨rfl, rfl⟩
theorem Own.lt (h : Own enc sz e w lo v xs) : ∀ k, v.ownBlock = some k → lo ≤ k ∧ k < w.heap.size := by
  intro k hk
  rcases h with ⟨rfl, _⟩ | ⟨g, cap, cur, rfl, hg, hh, _⟩
  · simp [Value.ownBlock] at hk
  · simp [Value.ownBlock] at hk
    subst hk
    exact ⟨hg, lt_of_heap hh⟩
theorem Own.keep (h : Own enc sz e w lo v xs) (hk : ∀ b, v.ownBlock = some b → w'.heap[b]? = w.heap[b]?) : Own enc sz e w' lo v xs := by
  rcases h with h | ⟨g, cap, cur, rfl, hg, hh, r⟩
  · exact .inl h
  · exact .inr ⟨g, cap, cur, rfl, hg, (hk g rfl).trans hh, r⟩
theorem Own.below {B : Nat} (h : Own enc sz e w lo v xs) (hb : Below B w w') (hB : w.heap.size ≤ B) : Own enc sz e w' lo v xs :=
  h.keep fun b hb' => hb.block b (by have := (h.lt b hb').2; omega)
theorem Own.alloc (h : Own enc sz e w lo v xs) (o : Obj) : Own enc sz e (w.alloc o) lo v xs :=
  h.below ((Below.refl w.heap.size w).alloc (Nat.le_refl _) o) (Nat.le_refl _)
theorem Own.drew (h : Own enc sz e w lo v xs) : Own enc sz e w.drew lo v xs := h
theorem Own.mono {lo' : Nat} (h : Own enc sz e w lo v xs) (hl : lo' ≤ lo) : Own enc sz e w lo' v xs := by
  rcases h with h | ⟨g, cap, cur, rfl, hg, r⟩
  · exact .inl h
  · exact .inr ⟨g, cap, cur, rfl, by omega, r⟩
theorem Own.form (h : Own enc sz e w lo v xs) : ∃ A c, v = .slice A xs.length c ∧ xs.length ≤ c ∧ c ≤ maxLen ∧ (A = none ∨ ∃ g, A = some ⟨g, 0, none⟩ ∧ lo ≤ g ∧ g < w.heap.size) := by
  rcases h with ⟨h2, h3⟩ | ⟨g, cap, cur, rfl, hg, hh, r⟩
  · exact ⟨none, 0, by rw [h2, h3], by omega, by simp [maxLen], .inl rfl⟩
  · exact ⟨_, cap, rfl, r.1, r.2.1, .inr ⟨g, rfl, hg, lt_of_heap hh⟩⟩
theorem Own.sl (hl : ∀ x, (enc x).length = sz) (h : Own enc sz e w lo v xs) : ∃ A c, v = .slice A xs.length c ∧ xs.length ≤ c ∧ c ≤ maxLen ∧ Sl enc sz w lo w.heap.size A xs := by
  rcases h with ⟨h2, h3⟩ | ⟨g, cap, cur, rfl, hg, hh, r1, r2, r3, r4⟩
  · have : xs = [] := List.eq_nil_of_length_eq_zero h3
    subst this
    exact ⟨none, 0, h2, by simp, by simp [maxLen], Sl.nil_⟩
  · refine ⟨_, cap, rfl, r1, r2, fun _ => ⟨g, 0, rfl, hg, lt_of_heap hh, fun i x hx j u hu => ?_⟩⟩
    have h5 := flatMap_get hl xs i x hx j u hu
    rw [← r4, List.getElem?_take] at h5
    split at h5
    · simp only [World.cell?, hh, Nat.zero_add]
      simpa using h5
    · cases h5
theorem Own.addrAt {A : Option Addr} {n c k : Nat} (h : Own enc sz e w lo (.slice A n c) xs) (hk : k < n) : ∃ g, A = some ⟨g, 0, none⟩ ∧ lo ≤ g ∧ g < w.heap.size := by
  rcases h with ⟨h2, h3⟩ | ⟨g, cap, cur, he, hg, hh, r⟩
  · injection h2 with e1 e2 e3
    omega
  · injection he with e1 e2 e3
    exact ⟨g, e1, hg, lt_of_heap hh⟩
theorem Own.lenEq {A : Option Addr} {n c : Nat} (h : Own enc sz e w lo (.slice A n c) xs) : n = xs.length := by
  rcases h with ⟨h2, h3⟩ | ⟨g, cap, cur, he, hg, hh, r⟩
  · injection h2 with e1 e2 e3
    omega
  · injection he with e1 e2 e3
theorem Own.slAt (hl : ∀ x, (enc x).length = sz) {A : Option Addr} {n c : Nat} (h : Own enc sz e w lo (.slice A n c) xs) : n = xs.length ∧ n ≤ c ∧ Sl enc sz w lo w.heap.size A xs := by
  obtain ⟨A', c', he, h1, _, h2⟩ := h.sl hl
  injection he with e1 e2 e3
  subst e1; subst e2; subst e3
  exact ⟨rfl, h1, h2⟩
theorem Own.row {g n c : Nat} (h : Own enc sz e w lo (.slice (some ⟨g, 0, none⟩) n c) xs) : n = xs.length ∧ lo ≤ g ∧ ∃ cur, w.heap[g]? = some (.cells cur e (0, 0)) ∧ n ≤ c ∧ c ≤ maxLen ∧ c * sz ≤ cur.size ∧ cur.toList.take (n * sz) = xs.flatMap enc := by
  rcases h with ⟨h2, _⟩ | ⟨g', cap, cur, he, hg, hh, r⟩
  · cases h2
  · injection he with e1 e2 e3
    injection e1 with e1
    injection e1 with e1
    subst e1; subst e2; subst e3
    exact ⟨rfl, hg, cur, hh, r⟩
theorem Own.of_row {g c : Nat} {cur : Array Value} (hlo : lo ≤ g) (hh : w.heap[g]? = some (.cells cur e (0, 0))) (hc : xs.length ≤ c) (hm : c ≤ maxLen) (hs : c * sz ≤ cur.size)
    (ht : cur.toList.take (xs.length * sz) = xs.flatMap enc) : Own enc sz e w lo (.slice (some ⟨g, 0, none⟩) xs.length c) xs :=
  .inr ⟨g, c, cur, rfl, hlo, hh, hc, hm, hs, ht⟩
end
section
variable {α : Type} {enc : α → List Value} {sz : Nat} {e : TypeId} {w : World} {lo : Nat} {xs : List α}
theorem Own.cap {A : Option Addr} {n c : Nat} (h : Own enc sz e w lo (.slice A n c) xs) : n ≤ c ∧ c ≤ maxLen := by
  rcases h with ⟨h2, h3⟩ | ⟨g, cap, cur, he, hg, hh, r1, r2, r3, r4⟩
  · injection h2 with e1 e2 e3
    subst e2; subst e3
    simp [maxLen]
  · injection he with e1 e2 e3
    subst e2; subst e3
    exact ⟨r1, r2⟩
end
def putCells (w : World) (g j : Nat) : List Value → World
  | [] => w
  | u :: us => putCells (w.setCell ⟨g, j, none⟩ u) g (j + 1) us
theorem heap_putCells (us : List Value) : ∀ (w : World) (g j : Nat) (cur : Array Value) (e : TypeId), w.heap[g]? = some (.cells cur e (0, 0)) → j + us.length ≤ cur.size →
    ∃ cur', (putCells w g j us).heap[g]? = some (.cells cur' e (0, 0)) ∧ cur'.size = cur.size ∧ cur'.toList = cur.toList.take j ++ us ++ cur.toList.drop (j + us.length) := by
  induction us with
  | nil => intro w g j cur e h hj; exact ⟨cur, h, rfl, by simp⟩
  | cons u us ih =>
    intro w g j cur e h hj
    simp only [List.length_cons] at hj
    have h1 : (w.setCell ⟨g, j, none⟩ u).heap[g]? = some (.cells (cur.setIfInBounds j u) e (0, 0)) := by
      simp [World.setCell, Array.getElem?_modify, h]
    obtain ⟨cur', h2, h3, h4⟩ := ih _ g (j + 1) _ e h1 (by simp; omega)
    refine ⟨cur', h2, by simpa using h3, ?_⟩
    rw [h4]
    have hlen : j < cur.toList.length := by simp; omega
    simp only [Array.toList_setIfInBounds, List.length_cons]
    rw [List.take_set, List.drop_set_of_lt (by omega)]
    have : (cur.toList.take (j + 1)).set j u = cur.toList.take j ++ [u] := by
      have hm : min j cur.size = j := by simp at hlen; omega
      rw [List.take_succ_eq_append_getElem hlen, List.set_append_right _ _ (by simp; omega)]
      simp [hm]
    rw [this, show j + 1 + us.length = j + (us.length + 1) by omega]
    simp
section
variable {α : Type} {enc : α → List Value} {sz : Nat} {e : TypeId} {w : World} {lo : Nat} {xs : List α}
end
theorem heap_putCells_other (us : List Value) : ∀ (w : World) (g j k : Nat), k ≠ g → (putCells w g j us).heap[k]? = w.heap[k]? := by
  induction us with
  | nil => intro w g j k _; rfl
  | cons u us ih => intro w g j k hk; exact (ih _ g (j + 1) k hk).trans (Below.heap_setCell w ⟨g, j, none⟩ u k hk)
theorem size_putCells (us : List Value) : ∀ (w : World) (g j : Nat), (putCells w g j us).heap.size = w.heap.size := by
  induction us with
  | nil => intro w g j; rfl
  | cons u us ih => intro w g j; exact (ih _ g (j + 1)).trans (by simp [World.setCell])
section
variable {P : Program}
end
end Go.Proofs.Ytopmbnnjhoinkaa
namespace Go.Proofs.Ytopmbnnjhoinkaa
open Go.RowKit Rg
set_option linter.unusedVariables false
set_option linter.unusedSimpArgs false
set_option maxHeartbeats 1000000
theorem hide {p : Prop} (h : p) : Hid p := h
def inB (n lo hi : Int) : Bool := decide (lo ≤ n ∧ n ≤ hi)
theorem in_c (n lo hi : Int) (w : World) : Calls Try.prog 54 #[.int .i64 n, .int .i64 lo, .int .i64 hi] w fun e w' => e = .returned (.bool (inB n lo hi)) ∧ w = w' := by
  by_cases h1 : lo ≤ n
  · by_cases h2 : n ≤ hi
    · go_enter Try.func54, Try.ntmps54
      go_wp2
      go_ret
      exact ⟨by simp [inB, h1, h2], rfl⟩
    · go_enter Try.func54, Try.ntmps54
      go_wp2
      go_ret
      exact ⟨by simp [inB, h2], rfl⟩
  · go_enter Try.func54, Try.ntmps54
    go_wp2
    go_ret
    exact ⟨by simp [inB]; omega, rfl⟩
theorem l1In_c (n lo hi : Int) (w : World) : Calls Try.prog 34 #[.int .i64 n, .int .i64 lo, .int .i64 hi] w fun e w' => e = .returned (.bool (inB n lo hi)) ∧ w = w' := by
  by_cases h1 : lo ≤ n
  · by_cases h2 : n ≤ hi
    · go_enter Try.func34, Try.ntmps34
      go_wp2
      go_ret
      exact ⟨by simp [inB, h1, h2], rfl⟩
    · go_enter Try.func34, Try.ntmps34
      go_wp2
      go_ret
      exact ⟨by simp [inB, h2], rfl⟩
  · go_enter Try.func34, Try.ntmps34
    go_wp2
    go_ret
    exact ⟨by simp [inB]; omega, rfl⟩
theorem take_eq_succ {α : Type} (xs ys : List α) (k : Nat) (hx : k < xs.length) (hy : k < ys.length) (h : xs.take k = ys.take k) (he : xs[k] = ys[k]) : xs.take (k + 1) = ys.take (k + 1) := by
  rw [List.take_succ_eq_append_getElem hx, List.take_succ_eq_append_getElem hy, h, he]
structure Only (B : Nat) (g : Option Nat) (w w' : World) : Prop where
  os : w'.os = w.os
  tape : w'.tape = w.tape
  output : w'.output = w.output
  size : w.heap.size ≤ w'.heap.size
  block : ∀ k, k < B → g ≠ some k → w'.heap[k]? = w.heap[k]?
section
variable {B B' : Nat} {g : Option Nat} {a w w' : World}
theorem Only.refl (B : Nat) (g : Option Nat) (w : World) : Only B g w w := ⟨rfl, rfl, rfl, Nat.le_refl _, fun _ _ _ => rfl⟩
theorem Only.trans (h : Only B g a w) (k : Only B g w w') : Only B g a w' := ⟨k.os.trans h.os, k.tape.trans h.tape, k.output.trans h.output, Nat.le_trans h.size k.size, fun j hj hne => (k.block j hj hne).trans (h.block j hj hne)⟩
theorem Only.of_below (h : Below B w w') : Only B g w w' := ⟨h.os, h.tape, h.output, h.size, fun k hk _ => h.block k hk⟩
theorem Only.mono (h : Only B g w w') (hB : B' ≤ B) : Only B' g w w' := ⟨h.os, h.tape, h.output, h.size, fun k hk => h.block k (by omega)⟩
theorem Only.toBelow (h : Only B g w w') (hB : B' ≤ B) (hg : ∀ k, g = some k → B' ≤ k) : Below B' w w' := ⟨h.os, h.tape, h.output, h.size, fun k hk => h.block k (by omega) (fun e => by have := hg k e; omega)⟩
theorem Only.put {g : Nat} (us : List Value) : ∀ {w : World} {j : Nat}, Only B (some g) a w → Only B (some g) a (putCells w g j us) := by
  induction us with
  | nil => intro w j h; exact h
  | cons u us ih =>
    intro w j h
    exact ih (h.trans ⟨rfl, rfl, rfl, by simp [World.setCell], fun k _ hne => Below.heap_setCell w ⟨g, j, none⟩ u k (fun e => hne (by rw [e]))⟩)
theorem Only.alloc (h : Only B g a w) (hB : B ≤ w.heap.size) (o : Obj) : Only B g a (w.alloc o) := h.trans (Only.of_below ((Below.refl B w).alloc hB o))
theorem Only.drew (h : Only B g a w) : Only B g a w.drew := ⟨h.os, h.tape, h.output, h.size, h.block⟩
theorem Own.only {α : Type} {enc : α → List Value} {sz lo : Nat} {e : TypeId} {v : Value} {xs : List α} (h : Own enc sz e w lo v xs) (ho : Only B g w w') (hB : w.heap.size ≤ B) (hne : ∀ k, v.ownBlock = some k → g ≠ some k) : Own enc sz e w' lo v xs :=
  h.keep fun b hb => ho.block b (by have := (h.lt b hb).2; omega) (hne b hb)
end
theorem Only.keepc {g : Option Nat} {w w' : World} (h : Only w.heap.size g w w') {p : Addr} {v : Value} (hne : g ≠ some p.block) (hc : w.cell? p = some v) : w'.cell? p = some v :=
  (World.cell?_of_block (h.block p.block (lt_of_cell hc) hne)).trans hc
abbrev ReqV := Int × Int × Int × Int × Int
def okR (t : ReqV) : Bool := inB t.1 1 4 && (inB t.2.1 1 30 && (if t.2.2.1 = 1 ∨ t.2.2.1 = 3 then (t.2.2.2.1 == 0 && t.2.2.2.2 == 0) else if t.2.2.1 = 2 then inB t.2.2.2.1 (-1) 1 && inB t.2.2.2.2 (-1) 1 else if t.2.2.1 = 4 then inB t.2.2.2.1 1 4 && (t.2.2.2.2 == 0) else if t.2.2.1 = 5 then inB t.2.2.2.1 1 4 && inB t.2.2.2.2 1 9 else false))
theorem isClient_c (n : Int) (w : World) : Calls Try.prog 86 #[.int .i64 n] w fun e w' => e = .returned (.bool (inB n 1 4)) ∧ w = w' := by
  go_enter Try.func86, Try.ntmps86
  go_wp2_with (go_at_call 54; refine (in_c _ _ _ _).mono ?_; rintro e w' ⟨rfl, rfl⟩)
  go_ret
  exact ⟨rfl, rfl⟩
theorem isKeeper_c (n : Int) (w : World) : Calls Try.prog 55 #[.int .i64 n] w fun e w' => e = .returned (.bool (inB n 0 3)) ∧ w = w' := by
  go_enter Try.func55, Try.ntmps55
  go_wp2_with (go_at_call 54; refine (in_c _ _ _ _).mono ?_; rintro e w' ⟨rfl, rfl⟩)
  go_ret
  exact ⟨rfl, rfl⟩
end Go.Proofs.Ytopmbnnjhoinkaa
namespace Go.Proofs.Ytopmbnnjhoinkaa
open Go Go.RowKit Go.WideShapes Go.ChangeShapes Go.Deep
section
variable {H : Type} {enc : TypeId × Value → H} {P : Program} {w : World} {base : Nat} {spare : Nat → Bool} {held : Bool}
theorem trod_sl {α : Type} {encA : α → List Value} {sz : Nat} {Good : α → Prop} {t e : TypeId} {fuel : Nat} {v : Value} {x : DataW H × List MemPlace} (ht : P.underlying t = some (.slice e)) (hC : P.cellsOf e = sz) (hsz : 0 < sz) (hl : ∀ a, (encA a).length = sz)
    (h : DataW.trod enc P w base spare held fuel t [v] = some x)
    (helem : ∀ (n : Nat) (cs : List Value) (y : DataW H × List MemPlace), DataW.trod enc P w base spare held n e cs = some y → ∃ a : α, cs = encA a ∧ Good a) :
    ∃ A len cap, ∃ xs : List α, v = .slice A len cap ∧ len = xs.length ∧ len ≤ cap ∧ cap ≤ maxLen ∧ Sl encA sz w 0 w.heap.size A xs ∧ ∀ x ∈ xs, Good x := by
  rcases open_slice ht h with ⟨hcs, _⟩ | ⟨a, len, cap, m, n, D, Pl, hcs, hb, hl1, hm, hmm, hx, hi⟩
  · injection hcs with hv
    exact ⟨none, 0, 0, [], hv, rfl, Nat.le_refl _, by simp [maxLen], Sl.nil_, by simp⟩
  · injection hcs with hv
    have hlm : len ≤ m := by rw [hmm]; split <;> omega
    have hall : ∀ i, i < len → ∃ y : α, (∀ j u, (encA y)[j]? = some u → w.cell? ((a.add (i * sz)).add j) = some u) ∧ Good y := by
      intro i hil
      obtain ⟨cs', hc, ht'⟩ := hi i (by omega)
      rw [hC] at hc
      obtain ⟨_, hcl, hat⟩ := World.cells?_some hc
      obtain ⟨y, hy, hg⟩ := helem n cs' _ ht'
      refine ⟨y, fun j u hu => ?_, hg⟩
      have hj : j < sz := by rw [← hl y]; exact (List.getElem?_eq_some_iff.1 hu).1
      rw [hat j hj, hy]
      exact hu
    have hlist : ∀ k, k ≤ len → ∃ xs : List α, xs.length = k ∧ (∀ i y, xs[i]? = some y → ∀ j u, (encA y)[j]? = some u → w.cell? ((a.add (i * sz)).add j) = some u) ∧ ∀ y ∈ xs, Good y := by
      intro k
      induction k with
      | zero => intro _; exact ⟨[], rfl, by simp, by simp⟩
      | succ k ih =>
        intro hk
        obtain ⟨xs, hxl, hx1, hx2⟩ := ih (by omega)
        obtain ⟨y, hy1, hy2⟩ := hall k (by omega)
        refine ⟨xs ++ [y], by simp [hxl], fun i z hz => ?_, fun z hz => ?_⟩
        · by_cases hik : i < k
          · rw [List.getElem?_append_left (by omega)] at hz
            exact hx1 i z hz
          · rw [List.getElem?_append_right (by omega), hxl] at hz
            have h0 : i - k < [y].length := (List.getElem?_eq_some_iff.1 hz).1
            have e1 : i = k := by simp at h0; omega
            subst e1
            simp at hz
            subst hz
            exact hy1
        · rcases List.mem_append.1 hz with hz | hz
          · exact hx2 z hz
          · simp at hz; subst hz; exact hy2
    obtain ⟨xs, hxl, hx1, hx2⟩ := hlist len (Nat.le_refl _)
    refine ⟨some a, len, cap, xs, hv, hxl.symm, hl1, hm, fun hne => ?_, hx2⟩
    obtain ⟨y, ys, hxy⟩ := List.exists_cons_of_ne_nil hne
    have hpos : 0 < sz := hsz
    have h0 : (encA y)[0]? = some ((encA y)[0]'(by rw [hl]; exact hpos)) := List.getElem?_eq_getElem _
    have hc0 := hx1 0 y (by rw [hxy]; rfl) 0 _ h0
    obtain ⟨b, off, spot⟩ := a
    have hspot : spot = none := by
      have := World.cell?_spot hc0
      unfold Addr.add at this
      split at this <;> split at this <;> simp_all
    subst hspot
    have hadd : ∀ i j : Nat, ((⟨b, off, none⟩ : Addr).add i).add j = ⟨b, off + i + j, none⟩ := by
      intro i j
      unfold Addr.add
      by_cases hi0 : i = 0 <;> by_cases hj0 : j = 0 <;> simp [hi0, hj0]
    refine ⟨b, off, rfl, Nat.zero_le _, ?_, fun i x hx j u hu => ?_⟩
    · have := hc0
      rw [hadd] at this
      rcases Nat.lt_or_ge b w.heap.size with h1 | h1
      · exact h1
      · simp [World.cell?, Array.getElem?_eq_none h1] at this
    · have := hx1 i x hx j u hu
      rw [hadd] at this
      exact this
end
end Go.Proofs.Ytopmbnnjhoinkaa
namespace Go.Proofs.Ytopmbnnjhoinkaa
open Go.RowKit Rg
set_option linter.unusedVariables false
set_option linter.unusedSimpArgs false
set_option maxHeartbeats 1000000
abbrev ElR (α : Type) := World → Nat → Nat → List Value → α → Prop
structure Kept {α : Type} (R : ElR α) : Prop where
  keep : ∀ {w w' : World} {lo hi : Nat} {cs : List Value} {t : α}, R w lo hi cs t → (∀ b, lo ≤ b → b < hi → w'.heap[b]? = w.heap[b]?) → R w' lo hi cs t
  mono : ∀ {w : World} {lo hi lo' hi' : Nat} {cs : List Value} {t : α}, R w lo hi cs t → lo' ≤ lo → hi ≤ hi' → R w lo' hi' cs t
structure RdN {α : Type} (sz : Nat) (R : ElR α) (w : World) (lo hi : Nat) (A : Option Addr) (n c : Nat) (ts : List α) : Prop where
  len : n = ts.length
  cap : n ≤ c
  max : c ≤ maxLen
  row : ts ≠ [] → ∃ b off, A = some ⟨b, off, none⟩ ∧ lo ≤ b ∧ b < hi ∧ ∀ (i : Nat) (h : i < ts.length), ∃ cs : List Value, cs.length = sz ∧ (∀ (j : Nat) (u : Value), cs[j]? = some u → w.cell? ⟨b, off + i * sz + j, none⟩ = some u) ∧ R w lo hi cs ts[i]
section
variable {α : Type} {sz : Nat} {R : ElR α} {w w' : World} {lo hi : Nat} {A : Option Addr} {n c : Nat} {ts : List α}
theorem RdN.keep (K : Kept R) (h : RdN sz R w lo hi A n c ts) (hk : ∀ b, lo ≤ b → b < hi → w'.heap[b]? = w.heap[b]?) : RdN sz R w' lo hi A n c ts :=
  ⟨h.len, h.cap, h.max, fun hne => by
    obtain ⟨b, off, e, h1, h2, h3⟩ := h.row hne
    refine ⟨b, off, e, h1, h2, fun i hi => ?_⟩
    obtain ⟨cs, h4, h5, h6⟩ := h3 i hi
    exact ⟨cs, h4, fun j u hu => (World.cell?_of_block (hk b h1 h2)).trans (h5 j u hu), K.keep h6 hk⟩⟩
theorem RdN.below (K : Kept R) {B : Nat} (h : RdN sz R w lo hi A n c ts) (hb : Below B w w') (hB : hi ≤ B) : RdN sz R w' lo hi A n c ts :=
  h.keep K fun b _ h2 => hb.block b (by omega)
theorem RdN.mono (K : Kept R) {lo' hi' : Nat} (h : RdN sz R w lo hi A n c ts) (hl : lo' ≤ lo) (hh : hi ≤ hi') : RdN sz R w lo' hi' A n c ts :=
  ⟨h.len, h.cap, h.max, fun hne => by
    obtain ⟨b, off, e, h1, h2, h3⟩ := h.row hne
    refine ⟨b, off, e, by omega, by omega, fun i hi => ?_⟩
    obtain ⟨cs, h4, h5, h6⟩ := h3 i hi
    exact ⟨cs, h4, h5, K.mono h6 hl hh⟩⟩
theorem RdN.nil_ (sz : Nat) (R : ElR α) (w : World) (lo hi : Nat) (A : Option Addr) (c : Nat) (hc : c ≤ maxLen) : RdN sz R w lo hi A 0 c [] := ⟨rfl, Nat.zero_le _, hc, fun h => absurd rfl h⟩
theorem RdN.addr (h : RdN sz R w lo hi A n c ts) {k : Nat} (hk : k < ts.length) : ∃ b off, A = some ⟨b, off, none⟩ ∧ lo ≤ b ∧ b < hi := by
  obtain ⟨b, off, e, h1, h2, _⟩ := h.row (by rintro rfl; simp at hk)
  exact ⟨b, off, e, h1, h2⟩
theorem RdN.at_ {b off : Nat} (h : RdN sz R w lo hi (some ⟨b, off, none⟩) n c ts) {k : Nat} (hk : k < ts.length) : ∃ cs : List Value, cs.length = sz ∧ (∀ (j : Nat) (u : Value), cs[j]? = some u → w.cell? ⟨b, off + k * sz + j, none⟩ = some u) ∧ R w lo hi cs ts[k] := by
  obtain ⟨b', off', e, h1, h2, h3⟩ := h.row (by rintro rfl; simp at hk)
  injection e with e
  injection e with e1 e2
  subst e1; subst e2
  exact h3 k hk
theorem RdN.lt {b off : Nat} (h : RdN sz R w lo hi (some ⟨b, off, none⟩) n c ts) {k : Nat} (hk : k < ts.length) : lo ≤ b ∧ b < hi := by
  obtain ⟨b', off', e, h1, h2⟩ := h.addr hk
  injection e with e
  injection e with e1 e2
  subst e1; subst e2
  exact ⟨h1, h2⟩
theorem RdN.take_ (h : RdN sz R w lo hi A n c ts) (k : Nat) (hk : k ≤ n) : RdN sz R w lo hi A k c (ts.take k) :=
  ⟨by have := h.len; simp; omega, Nat.le_trans hk h.cap, h.max, fun hne => by
    obtain ⟨b, off, e, h1, h2, h3⟩ := h.row (by rintro rfl; simp at hne)
    refine ⟨b, off, e, h1, h2, fun i hi => ?_⟩
    have hi' : i < ts.length := by simp at hi; omega
    obtain ⟨cs, h4, h5, h6⟩ := h3 i hi'
    exact ⟨cs, h4, h5, by rw [List.getElem_take]; exact h6⟩⟩
theorem RdN.drop_ {b off : Nat} (h : RdN sz R w lo hi (some ⟨b, off, none⟩) n c ts) (k : Nat) (hk : k ≤ n) : RdN sz R w lo hi (some ⟨b, off + k * sz, none⟩) (n - k) (c - k) (ts.drop k) :=
  ⟨by have := h.len; simp; omega, by have := h.cap; omega, by have := h.max; omega, fun hne => by
    obtain ⟨b', off', e, h1, h2, h3⟩ := h.row (by rintro rfl; simp at hne)
    injection e with e
    injection e with e1 e2
    subst e1; subst e2
    refine ⟨b, _, rfl, h1, h2, fun i hi => ?_⟩
    have hi' : k + i < ts.length := by simp at hi; omega
    obtain ⟨cs, h4, h5, h6⟩ := h3 (k + i) hi'
    refine ⟨cs, h4, fun j u hu => ?_, by rw [List.getElem_drop]; exact h6⟩
    have := h5 j u hu
    rw [Nat.add_mul, ← Nat.add_assoc] at this
    exact this⟩
end
def flatR {α : Type} (enc : α → List Value) : ElR α := fun _ _ _ cs t => cs = enc t
theorem flat_kept {α : Type} (enc : α → List Value) : Kept (flatR enc) := ⟨fun h _ => h, fun h _ _ => h⟩
section
variable {α : Type} {enc : α → List Value} {sz : Nat} {w : World} {lo hi : Nat} {A : Option Addr} {n c : Nat} {xs : List α}
theorem Sl.rdn (hl : ∀ x, (enc x).length = sz) (hs : Sl enc sz w lo hi A xs) (hn : n = xs.length) (hc : n ≤ c) (hm : c ≤ maxLen) : RdN sz (flatR enc) w lo hi A n c xs :=
  ⟨hn, hc, hm, fun hne => by
    obtain ⟨b, off, e, h1, h2, h3⟩ := hs hne
    exact ⟨b, off, e, h1, h2, fun i hi => ⟨enc xs[i], hl _, fun j u hu => h3 i xs[i] (List.getElem?_eq_getElem hi) j u hu, rfl⟩⟩⟩
theorem RdN.sl (h : RdN sz (flatR enc) w lo hi A n c xs) : Sl enc sz w lo hi A xs := fun hne => by
  obtain ⟨b, off, e, h1, h2, h3⟩ := h.row hne
  refine ⟨b, off, e, h1, h2, fun i x hx j u hu => ?_⟩
  have hi : i < xs.length := (List.getElem?_eq_some_iff.1 hx).1
  obtain ⟨cs, h4, h5, h6⟩ := h3 i hi
  have : xs[i] = x := by rw [List.getElem?_eq_getElem hi] at hx; injection hx
  rw [this] at h6
  have h7 : cs = enc x := h6
  rw [← h7] at hu
  exact h5 j u hu
theorem Own.rdn {e : TypeId} (hl : ∀ x, (enc x).length = sz) (h : Own enc sz e w lo (.slice A n c) xs) : RdN sz (flatR enc) w lo w.heap.size A n c xs := by
  obtain ⟨h1, h2, h3⟩ := h.slAt hl
  exact h3.rdn hl h1 h2 h.cap.2
end
/-! Asks, claims, votes, letters, keepers, worlds. -/
abbrev ClaimT := Int × Int × ReqV
def encClaim (t : ClaimT) : List Value := [.int .i64 t.1, .int .i64 t.2.1, .int .i64 t.2.2.1, .int .i64 t.2.2.2.1, .int .i64 t.2.2.2.2.1, .int .i64 t.2.2.2.2.2.1, .int .i64 t.2.2.2.2.2.2]
theorem encClaim_len (t : ClaimT) : (encClaim t).length = 7 := rfl
abbrev clR : ElR ClaimT := flatR encClaim
abbrev VoteT := Int × List ClaimT
def voteR : ElR VoteT := fun w lo hi cs t => ∃ A n c, cs = [.int .i64 t.1, .slice A n c] ∧ RdN 7 clR w lo hi A n c t.2
theorem vote_kept : Kept voteR := ⟨fun ⟨A, n, c, h1, h2⟩ hk => ⟨A, n, c, h1, h2.keep (flat_kept _) hk⟩, fun ⟨A, n, c, h1, h2⟩ hl hh => ⟨A, n, c, h1, h2.mono (flat_kept _) hl hh⟩⟩
abbrev MsgT := Int × Int × Int × Int × ReqV × List ClaimT × List VoteT
def msgR : ElR MsgT := fun w lo hi cs m => ∃ A n c B p d, cs = [.int .i64 m.1, .int .i64 m.2.1, .int .i64 m.2.2.1, .int .i64 m.2.2.2.1, .int .i64 m.2.2.2.2.1.1, .int .i64 m.2.2.2.2.1.2.1, .int .i64 m.2.2.2.2.1.2.2.1, .int .i64 m.2.2.2.2.1.2.2.2.1, .int .i64 m.2.2.2.2.1.2.2.2.2, .slice A n c, .slice B p d] ∧
  RdN 7 clR w lo hi A n c m.2.2.2.2.2.1 ∧ RdN 2 voteR w lo hi B p d m.2.2.2.2.2.2
theorem msg_kept : Kept msgR := ⟨fun ⟨A, n, c, B, p, d, h1, h2, h3⟩ hk => ⟨A, n, c, B, p, d, h1, h2.keep (flat_kept _) hk, h3.keep vote_kept hk⟩, fun ⟨A, n, c, B, p, d, h1, h2, h3⟩ hl hh => ⟨A, n, c, B, p, d, h1, h2.mono (flat_kept _) hl hh, h3.mono vote_kept hl hh⟩⟩
abbrev RepT := Int × Int × Bool × Int × List ClaimT × List MsgT × List ClaimT
def repR : ElR RepT := fun w lo hi cs r => ∃ A n c B p d E q f, cs = [.int .i64 r.1, .int .i64 r.2.1, .bool r.2.2.1, .int .i64 r.2.2.2.1, .slice A n c, .slice B p d, .slice E q f] ∧
  RdN 7 clR w lo hi A n c r.2.2.2.2.1 ∧ RdN 11 msgR w lo hi B p d r.2.2.2.2.2.1 ∧ RdN 7 clR w lo hi E q f r.2.2.2.2.2.2
theorem rep_kept : Kept repR := ⟨fun ⟨A, n, c, B, p, d, E, q, f, h1, h2, h3, h4⟩ hk => ⟨A, n, c, B, p, d, E, q, f, h1, h2.keep (flat_kept _) hk, h3.keep msg_kept hk, h4.keep (flat_kept _) hk⟩,
  fun ⟨A, n, c, B, p, d, E, q, f, h1, h2, h3, h4⟩ hl hh => ⟨A, n, c, B, p, d, E, q, f, h1, h2.mono (flat_kept _) hl hh, h3.mono msg_kept hl hh, h4.mono (flat_kept _) hl hh⟩⟩
instance : DecidableEq ReqV := fun a b => inferInstance
instance : DecidableEq ClaimT := fun a b => inferInstance
instance : DecidableEq VoteT := fun a b => inferInstance
instance : DecidableEq MsgT := fun a b => @instDecidableEqProd _ _ _ (@instDecidableEqProd _ _ _ (@instDecidableEqProd _ _ _ (@instDecidableEqProd _ _ _ (@instDecidableEqProd _ _ _ (@instDecidableEqProd _ _ _ _))))) a b
instance : DecidableEq RepT := fun a b => @instDecidableEqProd _ _ _ (@instDecidableEqProd _ _ _ (@instDecidableEqProd _ _ _ (@instDecidableEqProd _ _ _ (@instDecidableEqProd _ _ _ (@instDecidableEqProd _ _ _ _))))) a b
section
variable {w : World} {lo hi b off n c k : Nat}
theorem RdN.claim {ts : List ClaimT} (h : RdN 7 clR w lo hi (some ⟨b, off, none⟩) n c ts) (hk : k < ts.length) :
    w.cell? ⟨b, off + k * 7, none⟩ = some (.int .i64 ts[k].1) ∧ w.cell? ⟨b, off + k * 7 + 1, none⟩ = some (.int .i64 ts[k].2.1) ∧ w.cell? ⟨b, off + k * 7 + 2, none⟩ = some (.int .i64 ts[k].2.2.1) ∧ w.cell? ⟨b, off + k * 7 + 3, none⟩ = some (.int .i64 ts[k].2.2.2.1) ∧ w.cell? ⟨b, off + k * 7 + 4, none⟩ = some (.int .i64 ts[k].2.2.2.2.1) ∧ w.cell? ⟨b, off + k * 7 + 5, none⟩ = some (.int .i64 ts[k].2.2.2.2.2.1) ∧ w.cell? ⟨b, off + k * 7 + 6, none⟩ = some (.int .i64 ts[k].2.2.2.2.2.2) := by
  obtain ⟨cs, _, h5, h6⟩ := h.at_ hk
  have h7 : cs = encClaim ts[k] := h6
  subst h7
  exact ⟨h5 0 _ rfl, h5 1 _ rfl, h5 2 _ rfl, h5 3 _ rfl, h5 4 _ rfl, h5 5 _ rfl, h5 6 _ rfl⟩
theorem RdN.vote {ts : List VoteT} (h : RdN 2 voteR w lo hi (some ⟨b, off, none⟩) n c ts) (hk : k < ts.length) :
    ∃ A n' c', w.cell? ⟨b, off + k * 2, none⟩ = some (.int .i64 ts[k].1) ∧ w.cell? ⟨b, off + k * 2 + 1, none⟩ = some (.slice A n' c') ∧ RdN 7 clR w lo hi A n' c' ts[k].2 := by
  obtain ⟨cs, _, h5, A, n', c', rfl, h6⟩ := h.at_ hk
  exact ⟨A, n', c', h5 0 _ rfl, h5 1 _ rfl, h6⟩
theorem RdN.msg {ts : List MsgT} (h : RdN 11 msgR w lo hi (some ⟨b, off, none⟩) n c ts) (hk : k < ts.length) :
    ∃ A n' c' B p d, w.cell? ⟨b, off + k * 11, none⟩ = some (.int .i64 ts[k].1) ∧ w.cell? ⟨b, off + k * 11 + 1, none⟩ = some (.int .i64 ts[k].2.1) ∧ w.cell? ⟨b, off + k * 11 + 2, none⟩ = some (.int .i64 ts[k].2.2.1) ∧ w.cell? ⟨b, off + k * 11 + 3, none⟩ = some (.int .i64 ts[k].2.2.2.1) ∧
      w.cell? ⟨b, off + k * 11 + 4, none⟩ = some (.int .i64 ts[k].2.2.2.2.1.1) ∧ w.cell? ⟨b, off + k * 11 + 5, none⟩ = some (.int .i64 ts[k].2.2.2.2.1.2.1) ∧ w.cell? ⟨b, off + k * 11 + 6, none⟩ = some (.int .i64 ts[k].2.2.2.2.1.2.2.1) ∧ w.cell? ⟨b, off + k * 11 + 7, none⟩ = some (.int .i64 ts[k].2.2.2.2.1.2.2.2.1) ∧ w.cell? ⟨b, off + k * 11 + 8, none⟩ = some (.int .i64 ts[k].2.2.2.2.1.2.2.2.2) ∧
      w.cell? ⟨b, off + k * 11 + 9, none⟩ = some (.slice A n' c') ∧ w.cell? ⟨b, off + k * 11 + 10, none⟩ = some (.slice B p d) ∧ RdN 7 clR w lo hi A n' c' ts[k].2.2.2.2.2.1 ∧ RdN 2 voteR w lo hi B p d ts[k].2.2.2.2.2.2 := by
  obtain ⟨cs, _, h5, A, n', c', B, p, d, rfl, h6, h7⟩ := h.at_ hk
  exact ⟨A, n', c', B, p, d, h5 0 _ rfl, h5 1 _ rfl, h5 2 _ rfl, h5 3 _ rfl, h5 4 _ rfl, h5 5 _ rfl, h5 6 _ rfl, h5 7 _ rfl, h5 8 _ rfl, h5 9 _ rfl, h5 10 _ rfl, h6, h7⟩
theorem RdN.rep {ts : List RepT} (h : RdN 7 repR w lo hi (some ⟨b, off, none⟩) n c ts) (hk : k < ts.length) :
    ∃ A n' c' B p d E q f, w.cell? ⟨b, off + k * 7, none⟩ = some (.int .i64 ts[k].1) ∧ w.cell? ⟨b, off + k * 7 + 1, none⟩ = some (.int .i64 ts[k].2.1) ∧ w.cell? ⟨b, off + k * 7 + 2, none⟩ = some (.bool ts[k].2.2.1) ∧ w.cell? ⟨b, off + k * 7 + 3, none⟩ = some (.int .i64 ts[k].2.2.2.1) ∧
      w.cell? ⟨b, off + k * 7 + 4, none⟩ = some (.slice A n' c') ∧ w.cell? ⟨b, off + k * 7 + 5, none⟩ = some (.slice B p d) ∧ w.cell? ⟨b, off + k * 7 + 6, none⟩ = some (.slice E q f) ∧ RdN 7 clR w lo hi A n' c' ts[k].2.2.2.2.1 ∧ RdN 11 msgR w lo hi B p d ts[k].2.2.2.2.2.1 ∧ RdN 7 clR w lo hi E q f ts[k].2.2.2.2.2.2 := by
  obtain ⟨cs, _, h5, A, n', c', B, p, d, E, q, f, rfl, h6, h7, h8⟩ := h.at_ hk
  exact ⟨A, n', c', B, p, d, E, q, f, h5 0 _ rfl, h5 1 _ rfl, h5 2 _ rfl, h5 3 _ rfl, h5 4 _ rfl, h5 5 _ rfl, h5 6 _ rfl, h6, h7, h8⟩
end
/-! How many elements there are in all. -/
def Cs (sz : Nat) : Type := {l : List Value // l.length = sz ∧ ∀ u ∈ l, u.oneCell' = true}
def Cs.val {sz : Nat} (c : Cs sz) : List Value := Subtype.val c
theorem Cs.len {sz : Nat} (c : Cs sz) : c.val.length = sz := c.2.1
theorem Cs.one {sz : Nat} (c : Cs sz) : ∀ u ∈ c.val, u.oneCell' = true := c.2.2
def FL {α : Type} {sz : Nat} (F : ElR α) (w : World) : Nat → Nat → List (Cs sz) → List α → Prop
  | lo, hi, [], [] => lo ≤ hi
  | lo, hi, c :: cs, t :: ts => ∃ m, lo ≤ m ∧ F w lo m c.val t ∧ FL F w m hi cs ts
  | _, _, [], _ :: _ => False
  | _, _, _ :: _, [] => False
section
variable {α : Type} {sz : Nat} {F R : ElR α} {w w' : World}
theorem FL.le : ∀ {lo hi : Nat} {cs : List (Cs sz)} {ts : List α}, FL F w lo hi cs ts → lo ≤ hi
  | lo, hi, [], [], h => h
  | lo, hi, c :: cs, t :: ts, ⟨m, h1, _, h2⟩ => Nat.le_trans h1 h2.le
theorem FL.len : ∀ {lo hi : Nat} {cs : List (Cs sz)} {ts : List α}, FL F w lo hi cs ts → cs.length = ts.length
  | lo, hi, [], [], h => rfl
  | lo, hi, c :: cs, t :: ts, ⟨m, h1, _, h2⟩ => by simp [h2.len]
theorem FL.keep (K : Kept F) : ∀ {lo hi : Nat} {cs : List (Cs sz)} {ts : List α}, FL F w lo hi cs ts → (∀ b, lo ≤ b → b < hi → w'.heap[b]? = w.heap[b]?) → FL F w' lo hi cs ts
  | lo, hi, [], [], h, _ => h
  | lo, hi, c :: cs, t :: ts, ⟨m, h1, h3, h2⟩, hk => ⟨m, h1, K.keep h3 (fun b hb hb2 => hk b hb (by have := h2.le; omega)), h2.keep K (fun b hb hb2 => hk b (by omega) hb2)⟩
theorem FL.hi_mono : ∀ {lo hi hi' : Nat} {cs : List (Cs sz)} {ts : List α}, FL F w lo hi cs ts → hi ≤ hi' → FL F w lo hi' cs ts
  | lo, hi, hi', [], [], h, hh => Nat.le_trans h hh
  | lo, hi, hi', c :: cs, t :: ts, ⟨m, h1, h3, h2⟩, hh => ⟨m, h1, h3, h2.hi_mono hh⟩
theorem FL.at_ (K : Kept F) : ∀ {lo hi : Nat} {cs : List (Cs sz)} {ts : List α}, FL F w lo hi cs ts → ∀ (i : Nat) (hc : i < cs.length) (ht : i < ts.length), F w lo hi cs[i].val ts[i]
  | lo, hi, [], [], h, i, hc, _ => absurd hc (by simp)
  | lo, hi, c :: cs, t :: ts, ⟨m, h1, h3, h2⟩, 0, _, _ => K.mono h3 (Nat.le_refl _) h2.le
  | lo, hi, c :: cs, t :: ts, ⟨m, h1, h3, h2⟩, i + 1, hc, ht => K.mono (h2.at_ K i (by simpa using hc) (by simpa using ht)) h1 (Nat.le_refl _)
end
def Fr {α : Type} (sz : Nat) (e : TypeId) (F : ElR α) (w : World) (lo hi : Nat) (A : Option Addr) (n c : Nat) (ts : List α) : Prop :=
  ∃ (g : Nat) (ls : List (Cs sz)), A = some ⟨g, 0, none⟩ ∧ lo ≤ g ∧ g < hi ∧ Own Cs.val sz e w lo (.slice A n c) ls ∧ FL F w (g + 1) hi ls ts
section
variable {α : Type} {sz : Nat} {e : TypeId} {F R : ElR α} {w w' : World} {lo hi n c : Nat} {A : Option Addr} {ts : List α}
theorem Fr.keep (K : Kept F) (h : Fr sz e F w lo hi A n c ts) (hk : ∀ b, lo ≤ b → b < hi → w'.heap[b]? = w.heap[b]?) : Fr sz e F w' lo hi A n c ts := by
  obtain ⟨g, ls, rfl, h1, h2, h3, h4⟩ := h
  exact ⟨g, ls, rfl, h1, h2, h3.keep (fun b hb => by simp [Value.ownBlock] at hb; subst hb; exact hk _ h1 h2), h4.keep K (fun b hb hb2 => hk b (by omega) hb2)⟩
theorem Fr.mono (K : Kept F) {lo' hi' : Nat} (h : Fr sz e F w lo hi A n c ts) (hl : lo' ≤ lo) (hh : hi ≤ hi') : Fr sz e F w lo' hi' A n c ts := by
  obtain ⟨g, ls, rfl, h1, h2, h3, h4⟩ := h
  exact ⟨g, ls, rfl, by omega, by omega, h3.mono hl, h4.hi_mono hh⟩
theorem Fr.len (h : Fr sz e F w lo hi A n c ts) : n = ts.length := by
  obtain ⟨g, ls, rfl, h1, h2, h3, h4⟩ := h
  rw [h3.lenEq, h4.len]
theorem Fr.below (K : Kept F) {B : Nat} (h : Fr sz e F w lo hi A n c ts) (hb : Below B w w') (hB : hi ≤ B) : Fr sz e F w' lo hi A n c ts := h.keep K fun b _ h2 => hb.block b (by omega)
theorem Fr.rdn (K : Kept F) (KR : Kept R) (hF : ∀ {w lo hi cs t}, F w lo hi cs t → R w lo hi cs t) (h : Fr sz e F w lo hi A n c ts) : RdN sz R w lo hi A n c ts := by
  obtain ⟨g, ls, rfl, h1, h2, h3, h4⟩ := h
  have hl := h4.len
  obtain ⟨hn, hnc, hs⟩ := h3.slAt Cs.len
  refine ⟨by rw [hn, hl], hnc, h3.cap.2, fun hne => ?_⟩
  have hne' : ls ≠ [] := by
    intro h
    rw [h] at hl
    exact hne (List.eq_nil_of_length_eq_zero hl.symm)
  obtain ⟨b, off, he, _, _, h6⟩ := hs hne'
  injection he with he
  injection he with e1 e2
  subst e1; subst e2
  refine ⟨g, 0, rfl, h1, h2, fun i hi => ?_⟩
  have hi' : i < ls.length := by omega
  exact ⟨ls[i].val, ls[i].len, fun j u hu => h6 i ls[i] (List.getElem?_eq_getElem hi') j u hu, KR.mono (hF (h4.at_ K i hi' hi)) (by omega) (Nat.le_refl _)⟩
end
def OwnB {α : Type} (enc : α → List Value) (sz : Nat) (e : TypeId) (w : World) (lo hi : Nat) (A : Option Addr) (n c : Nat) (xs : List α) : Prop :=
  Own enc sz e w lo (.slice A n c) xs ∧ ∀ k, (Value.slice A n c).ownBlock = some k → k < hi
section
variable {α : Type} {enc : α → List Value} {sz : Nat} {e : TypeId} {w w' : World} {lo hi n c : Nat} {A : Option Addr} {xs : List α}
theorem OwnB.keep (h : OwnB enc sz e w lo hi A n c xs) (hk : ∀ b, lo ≤ b → b < hi → w'.heap[b]? = w.heap[b]?) : OwnB enc sz e w' lo hi A n c xs :=
  ⟨h.1.keep fun b hb => hk b (h.1.lt b hb).1 (h.2 b hb), h.2⟩
theorem OwnB.mono {lo' hi' : Nat} (h : OwnB enc sz e w lo hi A n c xs) (hl : lo' ≤ lo) (hh : hi ≤ hi') : OwnB enc sz e w lo' hi' A n c xs :=
  ⟨h.1.mono hl, fun k hk => by have := h.2 k hk; omega⟩
theorem OwnB.rdn (hl : ∀ x, (enc x).length = sz) (h : OwnB enc sz e w lo hi A n c xs) : RdN sz (flatR enc) w lo hi A n c xs := by
  obtain ⟨h1, h2, h3⟩ := h.1.slAt hl
  refine Sl.rdn hl (fun hne => ?_) h1 h2 h.1.cap.2
  obtain ⟨b, off, rfl, h4, h5, h6⟩ := h3 hne
  have hk : 0 < n := by
    have : xs.length ≠ 0 := fun h => hne (List.eq_nil_of_length_eq_zero h)
    omega
  obtain ⟨g, he, _, _⟩ := h.1.addrAt hk
  injection he with he
  injection he with e1 e2
  exact ⟨b, off, rfl, h4, h.2 b (by subst e2; simp [Value.ownBlock]), h6⟩
end
/-! Votes, letters, keepers of the call's own ('tC', 'tV', 'tM': the types' numbers). -/
abbrev tC : TypeId := 27
abbrev tV : TypeId := 42
abbrev tM : TypeId := 34
abbrev OwnC (w : World) (lo hi : Nat) (A : Option Addr) (n c : Nat) (xs : List ClaimT) : Prop := OwnB encClaim 7 tC w lo hi A n c xs
def voteF : ElR VoteT := fun w lo hi cs t => ∃ A n c, cs = [.int .i64 t.1, .slice A n c] ∧ OwnC w lo hi A n c t.2
theorem voteF_kept : Kept voteF := ⟨fun ⟨A, n, c, h1, h2⟩ hk => ⟨A, n, c, h1, h2.keep hk⟩, fun ⟨A, n, c, h1, h2⟩ hl hh => ⟨A, n, c, h1, h2.mono hl hh⟩⟩
theorem voteF_R {w : World} {lo hi : Nat} {cs : List Value} {t : VoteT} : voteF w lo hi cs t → voteR w lo hi cs t := fun ⟨A, n, c, h1, h2⟩ => ⟨A, n, c, h1, h2.rdn encClaim_len⟩
abbrev FrV (w : World) (lo hi : Nat) (A : Option Addr) (n c : Nat) (ts : List VoteT) : Prop := Fr 2 tV voteF w lo hi A n c ts
theorem FrV.rd {w : World} {lo hi n c : Nat} {A : Option Addr} {ts : List VoteT} (h : FrV w lo hi A n c ts) : RdN 2 voteR w lo hi A n c ts := Fr.rdn voteF_kept vote_kept voteF_R h
def msgF : ElR MsgT := fun w lo hi cs m => ∃ mid A n c B p d, lo ≤ mid ∧ mid ≤ hi ∧ cs = [.int .i64 m.1, .int .i64 m.2.1, .int .i64 m.2.2.1, .int .i64 m.2.2.2.1, .int .i64 m.2.2.2.2.1.1, .int .i64 m.2.2.2.2.1.2.1, .int .i64 m.2.2.2.2.1.2.2.1, .int .i64 m.2.2.2.2.1.2.2.2.1, .int .i64 m.2.2.2.2.1.2.2.2.2, .slice A n c, .slice B p d] ∧
  OwnC w lo mid A n c m.2.2.2.2.2.1 ∧ FrV w mid hi B p d m.2.2.2.2.2.2
theorem msgF_kept : Kept msgF := ⟨fun ⟨mid, A, n, c, B, p, d, a1, a2, h1, h2, h3⟩ hk => ⟨mid, A, n, c, B, p, d, a1, a2, h1, h2.keep (fun b hb hb2 => hk b hb (by omega)), h3.keep voteF_kept (fun b hb hb2 => hk b (by omega) hb2)⟩,
  fun ⟨mid, A, n, c, B, p, d, a1, a2, h1, h2, h3⟩ hl hh => ⟨mid, A, n, c, B, p, d, by omega, by omega, h1, h2.mono hl (Nat.le_refl _), h3.mono voteF_kept (Nat.le_refl _) hh⟩⟩
theorem msgF_R {w : World} {lo hi : Nat} {cs : List Value} {m : MsgT} : msgF w lo hi cs m → msgR w lo hi cs m := fun ⟨mid, A, n, c, B, p, d, a1, a2, h1, h2, h3⟩ => ⟨A, n, c, B, p, d, h1, (h2.mono (Nat.le_refl _) a2).rdn encClaim_len, (FrV.rd h3).mono vote_kept a1 (Nat.le_refl _)⟩
abbrev FrM (w : World) (lo hi : Nat) (A : Option Addr) (n c : Nat) (ts : List MsgT) : Prop := Fr 11 tM msgF w lo hi A n c ts
theorem FrM.rd {w : World} {lo hi n c : Nat} {A : Option Addr} {ts : List MsgT} (h : FrM w lo hi A n c ts) : RdN 11 msgR w lo hi A n c ts := Fr.rdn msgF_kept msg_kept msgF_R h
def repF : ElR RepT := fun w lo hi cs r => ∃ m1 m2 A n c B p d E q f, lo ≤ m1 ∧ m1 ≤ m2 ∧ m2 ≤ hi ∧ cs = [.int .i64 r.1, .int .i64 r.2.1, .bool r.2.2.1, .int .i64 r.2.2.2.1, .slice A n c, .slice B p d, .slice E q f] ∧
  OwnC w lo m1 A n c r.2.2.2.2.1 ∧ FrM w m1 m2 B p d r.2.2.2.2.2.1 ∧ OwnC w m2 hi E q f r.2.2.2.2.2.2
theorem repF_kept : Kept repF := ⟨fun ⟨m1, m2, A, n, c, B, p, d, E, q, f, a1, a2, a3, h1, h2, h3, h4⟩ hk => ⟨m1, m2, A, n, c, B, p, d, E, q, f, a1, a2, a3, h1, h2.keep (fun b hb hb2 => hk b hb (by omega)), h3.keep msgF_kept (fun b hb hb2 => hk b (by omega) (by omega)), h4.keep (fun b hb hb2 => hk b (by omega) hb2)⟩,
  fun ⟨m1, m2, A, n, c, B, p, d, E, q, f, a1, a2, a3, h1, h2, h3, h4⟩ hl hh => ⟨m1, m2, A, n, c, B, p, d, E, q, f, by omega, a2, by omega, h1, h2.mono hl (Nat.le_refl _), h3, h4.mono (Nat.le_refl _) hh⟩⟩
theorem repF_R {w : World} {lo hi : Nat} {cs : List Value} {r : RepT} : repF w lo hi cs r → repR w lo hi cs r := fun ⟨m1, m2, A, n, c, B, p, d, E, q, f, a1, a2, a3, h1, h2, h3, h4⟩ => ⟨A, n, c, B, p, d, E, q, f, h1, (h2.mono (Nat.le_refl _) (by omega)).rdn encClaim_len, (FrM.rd h3).mono msg_kept a1 a3, (h4.mono (by omega) (Nat.le_refl _)).rdn encClaim_len⟩
abbrev tR : TypeId := 87
abbrev FrR (w : World) (lo hi : Nat) (A : Option Addr) (n c : Nat) (ts : List RepT) : Prop := Fr 7 tR repF w lo hi A n c ts
theorem FrR.rd {w : World} {lo hi n c : Nat} {A : Option Addr} {ts : List RepT} (h : FrR w lo hi A n c ts) : RdN 7 repR w lo hi A n c ts := Fr.rdn repF_kept rep_kept repF_R h
end Go.Proofs.Ytopmbnnjhoinkaa
namespace Go.Proofs.Ytopmbnnjhoinkaa
open Go Go.RowKit Go.WideShapes Go.ChangeShapes Go.Deep
set_option linter.unusedVariables false
set_option linter.unusedSimpArgs false
set_option maxHeartbeats 1000000
section
variable {H : Type} {enc : TypeId × Value → H} {P : Program} {w : World} {base : Nat} {spare : Nat → Bool} {held : Bool}
end
section
variable {H : Type} {enc : TypeId × Value → H} {w : World} {base : Nat} {spare : Nat → Bool} {held : Bool}
end
end Go.Proofs.Ytopmbnnjhoinkaa
