/-
  What 'FVd' rests on (texts of this seat put together: RegG RegN RegF RegL).
  Conditions: none.
-/
import Derived.Test.YtopmbnnjhoinkaaVV11
namespace Go.Proofs.Ytopmbnnjhoinkaa
open Go.RowKit Rg
set_option linter.unusedVariables false
set_option linter.unusedSimpArgs false
set_option maxHeartbeats 1000000
namespace Rg
theorem wpT_sw {P : Program} {ops : Array Oper} {S : World → Prop} {et sl : List Tmp} {QT : Act → World → Prop} {o : Oper} {rest : List Oper} {a : Act} {w : World} (v : Value) (he : isE et o = false) (hg : Region.wanted o (yielded ops a.tmps) = true) (hv : Gives P o a w v) (hs : ∀ w2, S w2 → Gives P o a w2 v)
    (h : wpT P ops S et sl QT rest (a.put o.dst v) w) : wpT P ops S et sl QT (o :: rest) a w := by
  unfold wpT opT
  rw [if_pos hg, if_neg (by simp [he])]
  exact ⟨v, hv, fun _ => hs, h⟩
theorem wpT_lw {P : Program} {ops : Array Oper} {et sl : List Tmp} {QT : Act → World → Prop} {o : Oper} {rest : List Oper} {a : Act} {w w0 : World} {t : TypeId} (x : Operand) (p : Addr) (hg : Region.wanted o (yielded ops a.tmps) = true) (ho : o.op = .load t x) (het : inT et o = false) (hx : a.eval x = .pointer (some p))
    (hS : Since w0 w) (hp : p.block < w0.heap.size) (hc : (w.cell? p).isSome = true)
    (h : ∀ K : Act → World → Prop, (∀ a', wpT P ops (Since w0) et sl QT rest a' w → K a' w) → o.wp P a w K Qf) : wpT P ops (Since w0) et sl QT (o :: rest) a w := by
  have h1 := h (fun a' w' => w' = w ∧ wpT P ops (Since w0) et sl QT rest a' w') (fun a' h => ⟨rfl, h⟩)
  have he : isE et o = false := by simp [isE, isEop, ho, het]
  obtain ⟨u, hc⟩ := Option.isSome_iff_exists.1 hc
  unfold Oper.wp at h1
  generalize hr : (execOp a.eval o).run P w = r at h1
  cases r with
  | ok n w' =>
    obtain ⟨v, rfl⟩ := exec_value he hr
    simp only [Oper.upon] at h1
    obtain ⟨rfl, h2⟩ := h1
    exact wpT_sw v he hg hr (gives_load ho hx hc hp hS hr) h2
  | halt y w' =>
    exfalso
    cases y <;> simp only [Oper.upon] at h1
    exact h1
end Rg
namespace Rg
theorem gives_nc {P : Program} {o : Oper} {a : Act} {x : Operand} {p : Addr} (ho : o.op = .nilCheck x) (hx : a.eval x = .pointer (some p)) (w : World) : Gives P o a w (.pointer (some p)) := by
  unfold Gives
  obtain ⟨dst, op', type, pos, after, guard⟩ := o
  simp only at ho
  subst ho
  simp [execOp, hx]
def AtNil (et : List Tmp) (o : Oper) (a : Act) : Prop := ∃ x p, inT et o = false ∧ o.op = .nilCheck x ∧ a.eval x = .pointer (some p)
theorem wpT_ncw {P : Program} {ops : Array Oper} {S : World → Prop} {et sl : List Tmp} {QT : Act → World → Prop} {o : Oper} {rest : List Oper} {a : Act} {w : World} (hw : o.guard = none ∨ Region.wanted o (yielded ops a.tmps) = true) (h0 : AtNil et o a)
    (h : ∀ K : Act → World → Prop, (∀ a', wpT P ops S et sl QT rest a' w → K a' w) → o.wp P a w K Qf) : wpT P ops S et sl QT (o :: rest) a w := by
  obtain ⟨x, p, het, ho, hx⟩ := h0
  have hw' : Region.wanted o (yielded ops a.tmps) = true := by
    rcases hw with hg | hg
    · simp [Region.wanted, hg]
    · exact hg
  have h1 := h (fun a' w' => w' = w ∧ wpT P ops S et sl QT rest a' w') (fun a' h => ⟨rfl, h⟩)
  have he : isE et o = false := by simp [isE, isEop, ho, het]
  have hr : (execOp a.eval o).run P w = .ok (.value (.pointer (some p))) w := gives_nc ho hx w
  unfold Oper.wp at h1
  rw [hr] at h1
  simp only [Oper.upon] at h1
  exact wpT_sw _ he hw' hr (fun w2 _ => gives_nc ho hx w2) h1.2
end Rg
namespace Rg
def SL (S : World → Prop) (la i : Nat) : World → Prop := if i = la then (fun _ => True) else S
theorem SL.ne (S : World → Prop) {la i : Nat} (h : i ≠ la) : SL S la i = S := if_neg h
theorem SL.eq (S : World → Prop) (la : Nat) : SL S la la = fun _ => True := if_pos rfl
section
variable {P : Program} {ops : Array Oper} {Q : Exit → Act → World → Prop} {S : World → Prop} {et sl : List Tmp} {md : Region.Mode} {la : Nat}
def wpAnyF (P : Program) (md : Region.Mode) (ops : Array Oper) (S : World → Prop) (et sl : List Tmp) (la : Nat) (Q : Act → World → Prop) : Nat → Array Bool → Act → World → Prop
  | 0, listed, a, w => Region.ready md ops listed = [] ∧ Q a w
  | fuel + 1, listed, a, w =>
    (Region.ready md ops listed = [] → Q a w) ∧
    ∀ i ∈ Region.ready md ops listed, opAt P ops (SL S la i) et sl i (wpAnyF P md ops S et sl la Q fuel (listed.setIfInBounds i true)) a w
theorem wpAny_of_F {QT : Act → World → Prop} (hQ : ∀ a w, QT a w → Q .normal a w) : ∀ (fuel : Nat) (listed : Array Bool) (a : Act) (w : World),
    wpAnyF P md ops S et sl la QT fuel listed a w → wpAny P md ops Q fuel listed a w
  | 0, _, _, _, h => ⟨h.1, hQ _ _ h.2⟩
  | fuel + 1, listed, a, w, h => ⟨fun h0 => hQ _ _ (h.1 h0), fun i hi => by
      have h2 := h.2 i hi
      unfold opAt at h2
      unfold wpOp
      cases ho : ops[i]? with
      | none => rw [ho] at h2; exact h2.elim
      | some o =>
        rw [ho] at h2
        simp only [opT] at h2 ⊢
        split
        · rename_i hw
          rw [if_pos hw] at h2
          refine .inl ?_
          by_cases he : isE et o = true
          · rw [if_pos he] at h2
            exact wp_Qf (Oper.wp_mono (fun a' w' h' => wpAny_of_F hQ fuel _ a' w' h'.2) h2)
          · rw [if_neg he] at h2
            obtain ⟨v, h3, _, h4⟩ := h2
            unfold Gives at h3
            unfold Oper.wp
            rw [h3]
            exact wpAny_of_F hQ fuel _ _ _ h4
        · rename_i hw
          rw [if_neg hw] at h2
          exact wpAny_of_F hQ fuel _ _ _ h2⟩
theorem wpAnyF_first {QT : Act → World → Prop} {i : Nat} {oi : Oper} {st : Bool} {v : Value} {D : Array Bool} (hi : ops[i]? = some oi) (hsel : ∀ (j : Nat) (o : Oper) cs b, ops[j]? = some o → o.op ≠ .select cs b)
    (hE : isE et oi = false) (hsl : inT sl oi = true → st = true) (hD : closedB md ops D i = true) (hla : i ≠ la) (hDl : D.getD la false = false) :
    ∀ (fuel : Nat) (listed : Array Bool) (a : Act) (w : World),
      (∀ j oj, ops[j]? = some oj → j ≠ i → listed.getD j true = false → D.getD j false = true → oi.apart ops oj = true ∧ (isE et oj = true → st = true)) →
      (∀ j, listed.getD j false = true → j ≠ i ∧ D.getD j false = true) →
      i ∈ Region.ready md ops listed → YT P ops S st oi v a w → S w →
      wpAnyF P md ops S et sl la QT fuel (listed.setIfInBounds i true) (a.put oi.dst v) w → wpAnyF P md ops S et sl la QT (fuel + 1) listed a w := by
  intro fuel
  induction fuel with
  | zero =>
    intro listed a w _ _ hr hy hS H
    refine ⟨fun h => (by rw [h] at hr; cases hr), fun j hj => ?_⟩
    by_cases hji : j = i
    · subst hji; rw [SL.ne S hla]; unfold opAt; rw [hi]; exact hy.opT hE hsl H
    · have := ready_mono hj hji
      rw [H.1] at this
      cases this
  | succ fuel ih =>
    intro listed a w hfree hin hr hy hS H
    refine ⟨fun h => (by rw [h] at hr; cases hr), fun j hj => ?_⟩
    by_cases hji : j = i
    · subst hji; rw [SL.ne S hla]; unfold opAt; rw [hi]; exact hy.opT hE hsl H
    · have h1 := H.2 j (ready_mono hj hji)
      obtain ⟨hjun, oj, hoj, hall⟩ := mem_ready.1 hj
      have hDj : D.getD j false = true := closedB_spec hD hoj hji fun e he hb => hin _ (hall e he hb)
      have hjl : j ≠ la := by rintro rfl; rw [hDl] at hDj; cases hDj
      rw [SL.ne S hjl] at h1 ⊢
      unfold opAt at h1 ⊢
      rw [hoj] at h1 ⊢
      have hf := hfree j oj hoj hji hjun hDj
      have h2 := opT_put hf.1 (fun cs b => hsel i oi cs b hi) (fun cs b => hsel j oj cs b hoj) hf.2 hy h1 hS
      have hfree' : ∀ k ok, ops[k]? = some ok → k ≠ i → (listed.setIfInBounds j true).getD k true = false → D.getD k false = true → oi.apart ops ok = true ∧ (isE et ok = true → st = true) := fun k ok hk hki hun hd => by
        refine hfree k ok hk hki ?_ hd
        by_cases hjk : j = k
        · subst hjk; exact hjun
        · rw [getD_set_ne true hjk] at hun; exact hun
      have hin' : ∀ k, (listed.setIfInBounds j true).getD k false = true → k ≠ i ∧ D.getD k false = true := fun k hk => by
        by_cases hjk : j = k
        · subst hjk; exact ⟨hji, hDj⟩
        · rw [getD_set_ne false hjk] at hk; exact hin k hk
      refine opT_mono (fun a' w' h3 => ih (listed.setIfInBounds j true) a' w' hfree' hin' (ready_mono hr (Ne.symm hji)) h3.2.1 h3.1 ?_) h2
      rw [Array.setIfInBounds_comm _ _ hji]
      exact h3.2.2
inductive OrdF where
  | done
  | last
  | seg (ns : List Nat) (t : OrdF)
  | both (i j : Nat) (ti tj : OrdF)
  | three (i j k : Nat) (ti tj tk : OrdF)
def OrdF.len : OrdF → Nat
  | .done => 0
  | .last => 1
  | .seg ns t => ns.length + t.len
  | .both _ _ ti _ => ti.len + 1
  | .three _ _ _ ti _ _ => ti.len + 1
def wpOF (P : Program) (ops : Array Oper) (S : World → Prop) (et sl : List Tmp) (la : Nat) (QT : Act → World → Prop) : OrdF → Act → World → Prop
  | .done, a, w => QT a w
  | .last, a, w => wpT P ops (fun _ => True) et sl QT (pickL ops.toList [la]) a w
  | .seg ns t, a, w => wpT P ops S et sl (wpOF P ops S et sl la QT t) (pickL ops.toList ns) a w
  | .both i j ti tj, a, w => wpT P ops S et sl (wpOF P ops S et sl la QT ti) (pickL ops.toList [i]) a w ∧ wpT P ops S et sl (wpOF P ops S et sl la QT tj) (pickL ops.toList [j]) a w
  | .three i j k ti tj tk, a, w => wpT P ops S et sl (wpOF P ops S et sl la QT ti) (pickL ops.toList [i]) a w ∧ wpT P ops S et sl (wpOF P ops S et sl la QT tj) (pickL ops.toList [j]) a w ∧ wpT P ops S et sl (wpOF P ops S et sl la QT tk) (pickL ops.toList [k]) a w
def okSegF (zs : List TypeId) (md : Region.Mode) (ops : Array Oper) (et sl : List Tmp) (la : Nat) : List Nat → Array Bool → Bool
  | [], listed => true
  | i :: ns, listed =>
    i != la &&
    (match ops[i]? with
     | none => false
     | some oi =>
       if isE et oi then decide (Region.ready md ops listed = [i])
       else
         let D := before md ops listed i
         (Region.ready md ops listed).contains i && closedB md ops D i && !D.getD la false &&
         (List.range ops.size).all (fun j => (!listed.getD j false || (j != i && D.getD j false)) && (j == i || listed.getD j true || !D.getD j false ||
           match ops[j]? with
           | none => true
           | some oj => oi.apart ops oj && (!isE et oj || cleanK zs oi.op || inT sl oi)))) &&
    okSegF zs md ops et sl la ns (listed.setIfInBounds i true)
def okOF (zs : List TypeId) (md : Region.Mode) (ops : Array Oper) (et sl : List Tmp) (la : Nat) : OrdF → Array Bool → Bool
  | .done, listed => (Region.ready md ops listed).isEmpty
  | .last, listed => decide (Region.ready md ops listed = [la]) && (ops[la]?).isSome && (Region.ready md ops (listed.setIfInBounds la true)).isEmpty
  | .seg ns t, listed => okSegF zs md ops et sl la ns listed && okOF zs md ops et sl la t (listAll ns listed)
  | .both i j ti tj, listed => i != la && j != la && !(Region.ready md ops listed).isEmpty && (Region.ready md ops listed).all (fun k => k == i || k == j) && (ops[i]?).isSome && (ops[j]?).isSome && decide (ti.len = tj.len) &&
      okOF zs md ops et sl la ti (listed.setIfInBounds i true) && okOF zs md ops et sl la tj (listed.setIfInBounds j true)
  | .three i j k ti tj tk, listed => i != la && j != la && k != la && !(Region.ready md ops listed).isEmpty && (Region.ready md ops listed).all (fun m => m == i || m == j || m == k) && (ops[i]?).isSome && (ops[j]?).isSome && (ops[k]?).isSome && decide (ti.len = tj.len) && decide (ti.len = tk.len) &&
      okOF zs md ops et sl la ti (listed.setIfInBounds i true) && okOF zs md ops et sl la tj (listed.setIfInBounds j true) && okOF zs md ops et sl la tk (listed.setIfInBounds k true)
theorem wpAnyF_seg {zs : List TypeId} (hz' : sizedB P zs = true) {QT QK : Act → World → Prop} (hs : Region.noSelect ops = true) {m : Nat} : ∀ (ns : List Nat) (listed : Array Bool) (a : Act) (w : World), listed.size ≤ ops.size → okSegF zs md ops et sl la ns listed = true → S w →
    (∀ a' w', S w' → QK a' w' → wpAnyF P md ops S et sl la QT m (listAll ns listed) a' w') →
    wpT P ops S et sl QK (pickL ops.toList ns) a w → wpAnyF P md ops S et sl la QT (ns.length + m) listed a w
  | [], listed, a, w, _, hB, hS, hQ, h => by
    simp only [List.length_nil, Nat.zero_add]
    exact hQ a w hS h
  | i :: ns, listed, a, w, hz, hB, hS, hQ, h => by
    rw [show (i :: ns).length + m = (ns.length + m) + 1 by simp; omega]
    simp only [okSegF, Bool.and_eq_true, bne_iff_ne] at hB
    obtain ⟨⟨hla, hB1⟩, hB2⟩ := hB
    cases hi : ops[i]? with
    | none => rw [hi] at hB1; simp at hB1
    | some oi =>
      rw [hi] at hB1
      have hl : ops.toList[i]? = some oi := by simpa using hi
      simp only [pickL, hl, wpT] at h
      by_cases hE : isE et oi = true
      · simp only [hE, if_true, decide_eq_true_eq] at hB1
        refine ⟨fun h0 => (by rw [hB1] at h0; cases h0), fun j hj => ?_⟩
        rw [hB1] at hj
        have hj' : j = i := by simpa using hj
        subst hj'
        rw [SL.ne S hla]
        have goal : opT P ops S et sl oi (wpAnyF P md ops S et sl la QT (ns.length + m) (listed.setIfInBounds j true)) a w := by
          unfold opT at h ⊢
          by_cases hw : Region.wanted oi (yielded ops a.tmps) = true
          · rw [if_pos hw, if_pos hE] at h
            rw [if_pos hw, if_pos hE]
            exact Oper.wp_mono (fun a' w' h' => ⟨h'.1, wpAnyF_seg hz' hs ns _ a' w' (by simpa using hz) hB2 h'.1 hQ h'.2⟩) h
          · rw [if_neg hw] at h
            rw [if_neg hw]
            exact wpAnyF_seg hz' hs ns _ _ _ (by simpa using hz) hB2 hS hQ h
        unfold opAt
        rw [hi]
        exact goal
      · have hE' : isE et oi = false := by simpa using hE
        simp only [hE', Bool.false_eq_true, if_false, Bool.and_eq_true, Bool.not_eq_true'] at hB1
        obtain ⟨⟨⟨hr, hcl⟩, hDl⟩, hall⟩ := hB1
        have hall' := fun j oj (hj : ops[j]? = some oj) => List.all_eq_true.1 hall j (List.mem_range.2 (Array.getElem?_eq_some_iff.1 hj).1)
        have hy : ∃ v, YT P ops S (cleanK zs oi.op || inT sl oi) oi v a w ∧ wpT P ops S et sl QK (pickL ops.toList ns) (a.put oi.dst v) w := by
          unfold opT at h
          by_cases hw : Region.wanted oi (yielded ops a.tmps) = true
          · rw [if_pos hw, if_neg hE] at h
            obtain ⟨v, h1, h2, h3⟩ := h
            refine ⟨v, .inl ⟨hw, h1, fun hst w2 hw2 => ?_⟩, h3⟩
            rcases Bool.or_eq_true _ _ ▸ hst with hk | hk
            · exact clean_gives hz' hk h1 w2
            · exact h2 hk w2 hw2
          · rw [if_neg hw] at h
            exact ⟨undef, .inr ⟨by simpa using hw, rfl⟩, h⟩
        obtain ⟨v, hy, hK⟩ := hy
        refine wpAnyF_first hi (Region.noSelect_spec hs) hE' (fun hsl => by simp [hsl]) hcl hla hDl (ns.length + m) listed a w ?_ ?_ (by simpa using hr) hy hS (wpAnyF_seg hz' hs ns _ _ _ (by simpa using hz) hB2 hS hQ hK)
        · intro j oj hj hne hun hd
          have h1 := (Bool.and_eq_true _ _ ▸ hall' j oj hj).2
          simp only [hj, hne, hun, hd, Bool.or_eq_true, beq_iff_eq, Bool.and_eq_true, Bool.not_eq_true', false_or, Bool.false_eq_true, Bool.true_eq_false] at h1
          refine ⟨h1.1, fun he => ?_⟩
          rcases h1.2 with (h2 | h2) | h2
          · rw [he] at h2; cases h2
          · simp [h2]
          · simp [h2]
        · intro j hj
          have hlt : j < ops.size := by
            rcases Nat.lt_or_ge j listed.size with h' | h'
            · omega
            · simp [Array.getElem?_eq_none h'] at hj
          have h1 := List.all_eq_true.1 hall j (List.mem_range.2 hlt)
          simp only [hj, Bool.and_eq_true, Bool.or_eq_true, Bool.not_true, Bool.false_eq_true, false_or, bne_iff_ne] at h1
          exact h1.1
theorem wpAnyF_of_ord {zs : List TypeId} (hz' : sizedB P zs = true) {QT : Act → World → Prop} (hs : Region.noSelect ops = true) : ∀ (t : OrdF) (listed : Array Bool) (a : Act) (w : World), listed.size ≤ ops.size → okOF zs md ops et sl la t listed = true → S w →
    wpOF P ops S et sl la QT t a w → wpAnyF P md ops S et sl la QT t.len listed a w
  | .done, listed, a, w, _, hB, _, h => ⟨by simpa [okOF] using hB, h⟩
  | .last, listed, a, w, hz, hB, hS, h => by
    simp only [okOF, Bool.and_eq_true, decide_eq_true_eq] at hB
    obtain ⟨⟨h1, h2⟩, h3⟩ := hB
    refine ⟨fun h0 => (by rw [h1] at h0; cases h0), fun k hk => ?_⟩
    rw [h1] at hk
    have hk' : k = la := by simpa using hk
    subst hk'
    rw [SL.eq]
    exact opAt_of h2 trivial h (fun a' w' _ h' => ⟨by simpa using h3, h'⟩)
  | .seg ns t, listed, a, w, hz, hB, hS, h => by
    simp only [okOF, Bool.and_eq_true] at hB
    exact wpAnyF_seg hz' hs ns listed a w hz hB.1 hS (fun a' w' hS' h' => wpAnyF_of_ord hz' hs t _ a' w' (by rw [listAll_size]; exact hz) hB.2 hS' h') h
  | .both i j ti tj, listed, a, w, hz, hB, hS, h => by
    simp only [okOF, Bool.and_eq_true, decide_eq_true_eq, bne_iff_ne] at hB
    obtain ⟨⟨⟨⟨⟨⟨⟨⟨hli, hlj⟩, h1⟩, h2⟩, h3⟩, h4⟩, h5⟩, h6⟩, h7⟩ := hB
    refine ⟨fun h0 => (by rw [h0] at h1; simp at h1), fun k hk => ?_⟩
    have hk2 := List.all_eq_true.1 h2 k hk
    simp only [Bool.or_eq_true, beq_iff_eq] at hk2
    rcases hk2 with rfl | rfl
    · rw [SL.ne S hli]
      exact opAt_of h3 hS h.1 (fun a' w' hS' h' => wpAnyF_of_ord hz' hs ti _ a' w' (by simpa using hz) h6 hS' h')
    · rw [SL.ne S hlj]
      refine opAt_of h4 hS h.2 (fun a' w' hS' h' => ?_)
      show wpAnyF P md ops S et sl la QT ti.len _ a' w'
      rw [h5]
      exact wpAnyF_of_ord hz' hs tj _ a' w' (by simpa using hz) h7 hS' h'
  | .three i j k ti tj tk, listed, a, w, hz, hB, hS, h => by
    simp only [okOF, Bool.and_eq_true, decide_eq_true_eq, bne_iff_ne] at hB
    obtain ⟨⟨⟨⟨⟨⟨⟨⟨⟨⟨⟨⟨hli, hlj⟩, hlk⟩, h1⟩, h2⟩, h3⟩, h4⟩, h5⟩, h6⟩, h7⟩, h8⟩, h9⟩, h10⟩ := hB
    refine ⟨fun h0 => (by rw [h0] at h1; simp at h1), fun m hm => ?_⟩
    have hm2 := List.all_eq_true.1 h2 m hm
    simp only [Bool.or_eq_true, beq_iff_eq] at hm2
    rcases hm2 with (rfl | rfl) | rfl
    · rw [SL.ne S hli]
      exact opAt_of h3 hS h.1 (fun a' w' hS' h' => wpAnyF_of_ord hz' hs ti _ a' w' (by simpa using hz) h8 hS' h')
    · rw [SL.ne S hlj]
      refine opAt_of h4 hS h.2.1 (fun a' w' hS' h' => ?_)
      show wpAnyF P md ops S et sl la QT ti.len _ a' w'
      rw [h6]
      exact wpAnyF_of_ord hz' hs tj _ a' w' (by simpa using hz) h9 hS' h'
    · rw [SL.ne S hlk]
      refine opAt_of h5 hS h.2.2 (fun a' w' hS' h' => ?_)
      show wpAnyF P md ops S et sl la QT ti.len _ a' w'
      rw [h7]
      exact wpAnyF_of_ord hz' hs tk _ a' w' (by simpa using hz) h10 hS' h'
theorem wp_region_OF {id : Nat} {a : Act} {w : World} {l : List Oper} (S : World → Prop) (zs : List TypeId) (et sl : List Tmp) (la : Nat) (t : OrdF) (hz : sizedB P zs = true) (hm : P.follows .mixedOrders = true)
    (hB : (Region.noSelect l.toArray && decide (t.len = l.length) && okOF zs .any l.toArray et sl la t (Array.replicate l.length false)) = true) (hS : S w.drew)
    (h : wpOF P l.toArray S et sl la (fun a' w' => Q .normal a' w') t a w.drew) : (Code.region id l.toArray true).wp P Q a w := by
  simp only [Bool.and_eq_true, decide_eq_true_eq] at hB
  obtain ⟨⟨hs, hl⟩, hB⟩ := hB
  refine wp_region_any hm ?_
  have h1 := wpAnyF_of_ord (P := P) (md := .any) (S := S) (et := et) (sl := sl) (la := la) (QT := fun a' w' => Q .normal a' w') hz hs t (Array.replicate l.length false) a w.drew (by simp) hB hS h
  have h2 := wpAny_of_F (P := P) (Q := Q) (fun _ _ h => h) _ _ _ _ h1
  rw [hl] at h2
  simpa using h2
theorem wpOF_done {QT : Act → World → Prop} {a : Act} {w : World} (h : QT a w) : wpOF P ops S et sl la QT .done a w := h
theorem wpOF_last {QT : Act → World → Prop} {a : Act} {w : World} (h : wpT P ops (fun _ => True) et sl QT (pickL ops.toList [la]) a w) : wpOF P ops S et sl la QT .last a w := h
theorem wpOF_seg {QT : Act → World → Prop} {ns : List Nat} {t : OrdF} {a : Act} {w : World} (h : wpT P ops S et sl (wpOF P ops S et sl la QT t) (pickL ops.toList ns) a w) : wpOF P ops S et sl la QT (.seg ns t) a w := h
theorem wpOF_both {QT : Act → World → Prop} {i j : Nat} {ti tj : OrdF} {a : Act} {w : World} (h1 : wpT P ops S et sl (wpOF P ops S et sl la QT ti) (pickL ops.toList [i]) a w) (h2 : wpT P ops S et sl (wpOF P ops S et sl la QT tj) (pickL ops.toList [j]) a w) : wpOF P ops S et sl la QT (.both i j ti tj) a w := ⟨h1, h2⟩
theorem wpOF_three {QT : Act → World → Prop} {i j k : Nat} {ti tj tk : OrdF} {a : Act} {w : World} (h1 : wpT P ops S et sl (wpOF P ops S et sl la QT ti) (pickL ops.toList [i]) a w) (h2 : wpT P ops S et sl (wpOF P ops S et sl la QT tj) (pickL ops.toList [j]) a w) (h3 : wpT P ops S et sl (wpOF P ops S et sl la QT tk) (pickL ops.toList [k]) a w) : wpOF P ops S et sl la QT (.three i j k ti tj tk) a w := ⟨h1, h2, h3⟩
end
def MS (M : List (Nat × Obj)) (w : World) : Prop := ∀ x ∈ M, w.heap[x.1]? = some x.2
theorem MS.nil_ (w : World) : MS [] w := fun x hx => by cases hx
theorem MS.cons {M : List (Nat × Obj)} {w : World} {b : Nat} {o : Obj} (h : w.heap[b]? = some o) (hM : MS M w) : MS ((b, o) :: M) w := fun x hx => by
  rcases List.mem_cons.1 hx with rfl | hx
  · exact h
  · exact hM x hx
theorem at_wpT {P : Program} {ops : Array Oper} {S : World → Prop} {et sl : List Tmp} {QT : Act → World → Prop} {l : List Oper} {a : Act} {w : World} (h : wpT P ops S et sl QT l a w) : wpT P ops S et sl QT l a w := h
theorem MS.and_ {M : List (Nat × Obj)} {w : World} {R : Prop} (h : MS M w) (k : MS M w → R) : MS M w ∧ R := ⟨h, k h⟩
theorem wpT_lM {P : Program} {ops : Array Oper} {et sl : List Tmp} {QT : Act → World → Prop} {o : Oper} {rest : List Oper} {a : Act} {w : World} {M : List (Nat × Obj)} (i : Nat) {ob : Obj} {t : TypeId} {x : Operand} {p : Addr} (hg : o.guard = none ∨ Region.wanted o (yielded ops a.tmps) = true) (ho : o.op = .load t x) (het : inT et o = false) (hx : a.eval x = .pointer (some p))
    (hM : M[i]? = some (p.block, ob)) (hS : MS M w) (hc : (w.cell? p).isSome = true)
    (h : ∀ K : Act → World → Prop, (∀ a', wpT P ops (MS M) et sl QT rest a' w → K a' w) → o.wp P a w K Qf) : wpT P ops (MS M) et sl QT (o :: rest) a w := by
  have h1 := h (fun a' w' => w' = w ∧ wpT P ops (MS M) et sl QT rest a' w') (fun a' h => ⟨rfl, h⟩)
  have he : isE et o = false := by simp [isE, isEop, ho, het]
  obtain ⟨u, hc⟩ := Option.isSome_iff_exists.1 hc
  have hw : Region.wanted o (yielded ops a.tmps) = true := by
    rcases hg with hg | hg
    · simp [Region.wanted, hg]
    · exact hg
  unfold Oper.wp at h1
  generalize hr : (execOp a.eval o).run P w = r at h1
  cases r with
  | ok n w' =>
    obtain ⟨v, rfl⟩ := exec_value he hr
    simp only [Oper.upon] at h1
    obtain ⟨rfl, h2⟩ := h1
    refine wpT_sw v he hw hr (fun w2 h3 => ?_) h2
    have e1 : w'.heap[p.block]? = some ob := hS _ (List.mem_of_getElem? hM)
    have e2 : w2.heap[p.block]? = some ob := h3 _ (List.mem_of_getElem? hM)
    obtain ⟨cs, e, fz, hh⟩ : ∃ cs e fz, w'.heap[p.block]? = some (.cells cs e fz) := by
      unfold World.cell? at hc
      split at hc
      · rename_i cs e fz hh; exact ⟨cs, e, fz, hh⟩
      · cases hc
    exact gives_load_at ho hx hh ((e2.trans e1.symm).trans hh) hr
  | halt y w' =>
    exfalso
    cases y <;> simp only [Oper.upon] at h1
    exact h1
end Rg
end Go.Proofs.Ytopmbnnjhoinkaa
namespace Go.Proofs.Ytopmbnnjhoinkaa.Rg
open Go Go.RowKit
set_option linter.unusedVariables false
set_option linter.unusedSimpArgs false
set_option maxHeartbeats 1000000
theorem gives_len {P : Program} {o : Oper} {a : Act} {w : World} {v : Value} {x : Operand} {t e : TypeId} {A : Option Addr} {n c : Nat} (ho : o.op = .call { callee := .builtin .len, args := #[x], argTypes := #[t] }) (hx : a.eval x = .slice A n c) (ht : P.underlying t = some (.slice e)) (hg : Gives P o a w v) :
    ∀ w2, Gives P o a w2 v := by
  intro w2
  unfold Gives at *
  obtain ⟨dst, op', type, pos, after, guard⟩ := o
  simp only at ho
  subst ho
  simp [execOp, resolve, invoke, builtin, Builtin.len_, hx, run_underlying ht] at hg ⊢
  exact hg
theorem wpT_len {P : Program} {ops : Array Oper} {S : World → Prop} {et sl : List Tmp} {QT : Act → World → Prop} {o : Oper} {rest : List Oper} {a : Act} {w : World} {x : Operand} {t e : TypeId} {A : Option Addr} {n c : Nat} (hg : o.guard = none ∨ Region.wanted o (yielded ops a.tmps) = true) (he : isE et o = false)
    (ho : o.op = .call { callee := .builtin .len, args := #[x], argTypes := #[t] }) (hx : a.eval x = .slice A n c) (ht : P.underlying t = some (.slice e))
    (h : wpT P ops S et sl QT rest (a.put o.dst (.int .i64 n)) w) : wpT P ops S et sl QT (o :: rest) a w := by
  have hr : Gives P o a w (.int .i64 n) := by
    unfold Gives
    obtain ⟨dst, op', type, pos, after, guard⟩ := o
    simp only at ho
    subst ho
    simp [execOp, resolve, invoke, builtin, Builtin.len_, hx, run_underlying ht, goInt]
  unfold wpT opT
  have hw : Region.wanted o (yielded ops a.tmps) = true := by
    rcases hg with hg | hg
    · simp [Region.wanted, hg]
    · exact hg
  rw [if_pos hw, if_neg (by simp [he])]
  exact ⟨_, hr, fun _ => fun w2 _ => gives_len ho hx ht hr w2, h⟩
end Go.Proofs.Ytopmbnnjhoinkaa.Rg
