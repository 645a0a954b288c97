/-
  Regions in which two operations with effects stand in no order (an allocation beside calls): walked along every order of the effects, and along one order of all else.
-/
import Derived.Test.YtajmfonepnkofaaDoorReg
namespace Go.Proofs.YtajmfonepnkofaaDoor
open Go.RowKit Rg
set_option linter.unusedVariables false
set_option linter.unusedSimpArgs false

namespace Rg
section
variable {P : Program} {ops : Array Oper} {Q : Exit → Act → World → Prop} {S : World → Prop} {et sl : List Tmp} {md : Region.Mode}

/-- Orders: a list of operations, then the rest; or one of two first. -/
inductive Ord where
  | done
  | seg (ns : List Nat) (t : Ord)
  | both (i j : Nat) (ti tj : Ord)
  | three (i j k : Nat) (ti tj tk : Ord)
def Ord.len : Ord → Nat
  | .done => 0
  | .seg ns t => ns.length + t.len
  | .both _ _ ti _ => ti.len + 1
  | .three _ _ _ ti _ _ => ti.len + 1

def wpO (P : Program) (ops : Array Oper) (S : World → Prop) (et sl : List Tmp) (QT : Act → World → Prop) : Ord → Act → World → Prop
  | .done, a, w => QT a w
  | .seg ns t, a, w => wpT P ops S et sl (wpO P ops S et sl QT t) (pickL ops.toList ns) a w
  | .both i j ti tj, a, w => wpT P ops S et sl (wpO P ops S et sl QT ti) (pickL ops.toList [i]) a w ∧ wpT P ops S et sl (wpO P ops S et sl QT tj) (pickL ops.toList [j]) a w
  | .three i j k ti tj tk, a, w => wpT P ops S et sl (wpO P ops S et sl QT ti) (pickL ops.toList [i]) a w ∧ wpT P ops S et sl (wpO P ops S et sl QT tj) (pickL ops.toList [j]) a w ∧ wpT P ops S et sl (wpO P ops S et sl QT tk) (pickL ops.toList [k]) a w

def okSeg (zs : List TypeId) (md : Region.Mode) (ops : Array Oper) (et sl : List Tmp) : List Nat → Array Bool → Bool
  | [], listed => true
  | i :: ns, listed =>
    (match ops[i]? with
     | none => false
     | some oi =>
       if isE et oi then decide (Region.ready md ops listed = [i])
       else
         let D := before md ops listed i
         (Region.ready md ops listed).contains i && closedB md ops D i &&
         (List.range ops.size).all (fun j => (!listed.getD j false || (j != i && D.getD j false)) && (j == i || listed.getD j true || !D.getD j false ||
           match ops[j]? with
           | none => true
           | some oj => oi.apart ops oj && (!isE et oj || cleanK zs oi.op || inT sl oi)))) &&
    okSeg zs md ops et sl ns (listed.setIfInBounds i true)
def listAll (ns : List Nat) (listed : Array Bool) : Array Bool := ns.foldl (fun l i => l.setIfInBounds i true) listed
theorem listAll_size (ns : List Nat) : ∀ listed : Array Bool, (listAll ns listed).size = listed.size := by
  induction ns with
  | nil => intro l; rfl
  | cons i ns ih => intro l; show (listAll ns (l.setIfInBounds i true)).size = _; rw [ih]; simp
def okO (zs : List TypeId) (md : Region.Mode) (ops : Array Oper) (et sl : List Tmp) : Ord → Array Bool → Bool
  | .done, listed => (Region.ready md ops listed).isEmpty
  | .seg ns t, listed => okSeg zs md ops et sl ns listed && okO zs md ops et sl t (listAll ns listed)
  | .both i j ti tj, listed => !(Region.ready md ops listed).isEmpty && (Region.ready md ops listed).all (fun k => k == i || k == j) && (ops[i]?).isSome && (ops[j]?).isSome && decide (ti.len = tj.len) &&
      okO zs md ops et sl ti (listed.setIfInBounds i true) && okO zs md ops et sl tj (listed.setIfInBounds j true)
  | .three i j k ti tj tk, listed => !(Region.ready md ops listed).isEmpty && (Region.ready md ops listed).all (fun m => m == i || m == j || m == k) && (ops[i]?).isSome && (ops[j]?).isSome && (ops[k]?).isSome && decide (ti.len = tj.len) && decide (ti.len = tk.len) &&
      okO zs md ops et sl ti (listed.setIfInBounds i true) && okO zs md ops et sl tj (listed.setIfInBounds j true) && okO zs md ops et sl tk (listed.setIfInBounds k true)

theorem wpAnyT_seg {zs : List TypeId} (hz' : sizedB P zs = true) {QT QK : Act → World → Prop} (hs : Region.noSelect ops = true) {m : Nat} : ∀ (ns : List Nat) (listed : Array Bool) (a : Act) (w : World), listed.size ≤ ops.size → okSeg zs md ops et sl ns listed = true → S w →
    (∀ a' w', S w' → QK a' w' → wpAnyT P md ops S et sl QT m (listAll ns listed) a' w') →
    wpT P ops S et sl QK (pickL ops.toList ns) a w → wpAnyT P md ops S et sl QT (ns.length + m) listed a w
  | [], listed, a, w, _, hB, hS, hQ, h => by
    simp only [List.length_nil, Nat.zero_add]
    exact hQ a w hS h
  | i :: ns, listed, a, w, hz, hB, hS, hQ, h => by
    rw [show (i :: ns).length + m = (ns.length + m) + 1 by simp; omega]
    simp only [okSeg, Bool.and_eq_true] at hB
    obtain ⟨hB1, hB2⟩ := hB
    cases hi : ops[i]? with
    | none => rw [hi] at hB1; simp at hB1
    | some oi =>
      rw [hi] at hB1
      have hl : ops.toList[i]? = some oi := by simpa using hi
      simp only [pickL, hl, wpT] at h
      by_cases hE : isE et oi = true
      · simp only [hE, if_true, decide_eq_true_eq] at hB1
        refine ⟨fun h0 => (by rw [hB1] at h0; cases h0), fun j hj => ?_⟩
        rw [hB1] at hj
        have hj' : j = i := by simpa using hj
        subst hj'
        have goal : opT P ops S et sl oi (wpAnyT P md ops S et sl QT (ns.length + m) (listed.setIfInBounds j true)) a w := by
          unfold opT at h ⊢
          by_cases hw : Region.wanted oi (yielded ops a.tmps) = true
          · rw [if_pos hw, if_pos hE] at h
            rw [if_pos hw, if_pos hE]
            exact Oper.wp_mono (fun a' w' h' => ⟨h'.1, wpAnyT_seg hz' hs ns _ a' w' (by simpa using hz) hB2 h'.1 hQ h'.2⟩) h
          · rw [if_neg hw] at h
            rw [if_neg hw]
            exact wpAnyT_seg hz' hs ns _ _ _ (by simpa using hz) hB2 hS hQ h
        unfold opAt
        rw [hi]
        exact goal
      · have hE' : isE et oi = false := by simpa using hE
        simp only [hE', Bool.false_eq_true, if_false, Bool.and_eq_true] at hB1
        obtain ⟨⟨hr, hcl⟩, hall⟩ := hB1
        have hall' := fun j oj (hj : ops[j]? = some oj) => List.all_eq_true.1 hall j (List.mem_range.2 (Array.getElem?_eq_some_iff.1 hj).1)
        have hy : ∃ v, YT P ops S (cleanK zs oi.op || inT sl oi) oi v a w ∧ wpT P ops S et sl QK (pickL ops.toList ns) (a.put oi.dst v) w := by
          unfold opT at h
          by_cases hw : Region.wanted oi (yielded ops a.tmps) = true
          · rw [if_pos hw, if_neg hE] at h
            obtain ⟨v, h1, h2, h3⟩ := h
            refine ⟨v, .inl ⟨hw, h1, fun hst w2 hw2 => ?_⟩, h3⟩
            rcases Bool.or_eq_true _ _ ▸ hst with hk | hk
            · exact clean_gives hz' hk h1 w2
            · exact h2 hk w2 hw2
          · rw [if_neg hw] at h
            exact ⟨undef, .inr ⟨by simpa using hw, rfl⟩, h⟩
        obtain ⟨v, hy, hK⟩ := hy
        refine wpAnyT_first hi (Region.noSelect_spec hs) hE' (fun hsl => by simp [hsl]) hcl (ns.length + m) listed a w ?_ ?_ (by simpa using hr) hy hS (wpAnyT_seg hz' hs ns _ _ _ (by simpa using hz) hB2 hS hQ hK)
        · intro j oj hj hne hun hd
          have h1 := (Bool.and_eq_true _ _ ▸ hall' j oj hj).2
          simp only [hj, hne, hun, hd, Bool.or_eq_true, beq_iff_eq, Bool.and_eq_true, Bool.not_eq_true', false_or, Bool.false_eq_true, Bool.true_eq_false] at h1
          refine ⟨h1.1, fun he => ?_⟩
          rcases h1.2 with (h2 | h2) | h2
          · rw [he] at h2; cases h2
          · simp [h2]
          · simp [h2]
        · intro j hj
          have hlt : j < ops.size := by
            rcases Nat.lt_or_ge j listed.size with h' | h'
            · omega
            · simp [Array.getElem?_eq_none h'] at hj
          have h1 := List.all_eq_true.1 hall j (List.mem_range.2 hlt)
          simp only [hj, Bool.and_eq_true, Bool.or_eq_true, Bool.not_true, Bool.false_eq_true, false_or, bne_iff_ne] at h1
          exact h1.1

/-- One operation, then the rest. -/
theorem opAt_of {i : Nat} {QK : Act → World → Prop} {K : Act → World → Prop} {a : Act} {w : World} (hi : (ops[i]?).isSome = true) (hS : S w) (h : wpT P ops S et sl QK (pickL ops.toList [i]) a w) (hQ : ∀ a' w', S w' → QK a' w' → K a' w') : opAt P ops S et sl i K a w := by
  obtain ⟨oi, hi⟩ := Option.isSome_iff_exists.1 hi
  have hl : ops.toList[i]? = some oi := by simpa using hi
  simp only [pickL, hl, wpT] at h
  unfold opAt
  rw [hi]
  show opT P ops S et sl oi K a w
  unfold opT at h ⊢
  by_cases hw : Region.wanted oi (yielded ops a.tmps) = true
  · rw [if_pos hw] at h ⊢
    by_cases hE : isE et oi = true
    · rw [if_pos hE] at h ⊢
      exact Oper.wp_mono (fun a' w' h' => ⟨h'.1, hQ a' w' h'.1 h'.2⟩) h
    · rw [if_neg hE] at h ⊢
      obtain ⟨v, h1, h2, h3⟩ := h
      exact ⟨v, h1, h2, hQ _ _ hS h3⟩
  · rw [if_neg hw] at h ⊢
    exact hQ _ _ hS h

theorem wpAnyT_of_ord {zs : List TypeId} (hz' : sizedB P zs = true) {QT : Act → World → Prop} (hs : Region.noSelect ops = true) : ∀ (t : Ord) (listed : Array Bool) (a : Act) (w : World), listed.size ≤ ops.size → okO zs md ops et sl t listed = true → S w →
    wpO P ops S et sl QT t a w → wpAnyT P md ops S et sl QT t.len listed a w
  | .done, listed, a, w, _, hB, _, h => ⟨by simpa [okO] using hB, h⟩
  | .seg ns t, listed, a, w, hz, hB, hS, h => by
    simp only [okO, Bool.and_eq_true] at hB
    exact wpAnyT_seg hz' hs ns listed a w hz hB.1 hS (fun a' w' hS' h' => wpAnyT_of_ord hz' hs t _ a' w' (by rw [listAll_size]; exact hz) hB.2 hS' h') h
  | .both i j ti tj, listed, a, w, hz, hB, hS, h => by
    simp only [okO, Bool.and_eq_true, decide_eq_true_eq] at hB
    obtain ⟨⟨⟨⟨⟨⟨h1, h2⟩, h3⟩, h4⟩, h5⟩, h6⟩, h7⟩ := hB
    refine ⟨fun h0 => (by rw [h0] at h1; simp at h1), fun k hk => ?_⟩
    have hk2 := List.all_eq_true.1 h2 k hk
    simp only [Bool.or_eq_true, beq_iff_eq] at hk2
    rcases hk2 with rfl | rfl
    · exact opAt_of h3 hS h.1 (fun a' w' hS' h' => wpAnyT_of_ord hz' hs ti _ a' w' (by simpa using hz) h6 hS' h')
    · refine opAt_of h4 hS h.2 (fun a' w' hS' h' => ?_)
      show wpAnyT P md ops S et sl QT ti.len _ a' w'
      rw [h5]
      exact wpAnyT_of_ord hz' hs tj _ a' w' (by simpa using hz) h7 hS' h'
  | .three i j k ti tj tk, listed, a, w, hz, hB, hS, h => by
    simp only [okO, Bool.and_eq_true, decide_eq_true_eq] at hB
    obtain ⟨⟨⟨⟨⟨⟨⟨⟨⟨h1, h2⟩, h3⟩, h4⟩, h5⟩, h6⟩, h7⟩, h8⟩, h9⟩, h10⟩ := hB
    refine ⟨fun h0 => (by rw [h0] at h1; simp at h1), fun m hm => ?_⟩
    have hm2 := List.all_eq_true.1 h2 m hm
    simp only [Bool.or_eq_true, beq_iff_eq] at hm2
    rcases hm2 with (rfl | rfl) | rfl
    · exact opAt_of h3 hS h.1 (fun a' w' hS' h' => wpAnyT_of_ord hz' hs ti _ a' w' (by simpa using hz) h8 hS' h')
    · refine opAt_of h4 hS h.2.1 (fun a' w' hS' h' => ?_)
      show wpAnyT P md ops S et sl QT ti.len _ a' w'
      rw [h6]
      exact wpAnyT_of_ord hz' hs tj _ a' w' (by simpa using hz) h9 hS' h'
    · refine opAt_of h5 hS h.2.2 (fun a' w' hS' h' => ?_)
      show wpAnyT P md ops S et sl QT ti.len _ a' w'
      rw [h7]
      exact wpAnyT_of_ord hz' hs tk _ a' w' (by simpa using hz) h10 hS' h'

/-- THE LAW: a region that draws its order, walked along the orders 't'. -/
theorem wp_region_O {id : Nat} {a : Act} {w : World} {l : List Oper} (S : World → Prop) (zs : List TypeId) (et sl : List Tmp) (t : Ord) (hz : sizedB P zs = true) (hm : P.follows .mixedOrders = true)
    (hB : (Region.noSelect l.toArray && decide (t.len = l.length) && okO zs .any l.toArray et sl t (Array.replicate l.length false)) = true) (hS : S w.drew)
    (h : wpO P l.toArray S et sl (fun a' w' => Q .normal a' w') t a w.drew) : (Code.region id l.toArray true).wp P Q a w := by
  simp only [Bool.and_eq_true, decide_eq_true_eq] at hB
  obtain ⟨⟨hs, hl⟩, hB⟩ := hB
  refine wp_region_any hm ?_
  have h1 := wpAnyT_of_ord (P := P) (md := .any) (S := S) (et := et) (sl := sl) (QT := fun a' w' => Q .normal a' w') hz hs t (Array.replicate l.length false) a w.drew (by simp) hB hS h
  have h2 := wpAny_of_T (P := P) (Q := Q) (fun _ _ h => h) _ _ _ _ h1
  rw [hl] at h2
  simpa using h2
theorem wpO_done {QT : Act → World → Prop} {a : Act} {w : World} (h : QT a w) : wpO P ops S et sl QT .done a w := h
theorem wpO_seg {QT : Act → World → Prop} {ns : List Nat} {t : Ord} {a : Act} {w : World} (h : wpT P ops S et sl (wpO P ops S et sl QT t) (pickL ops.toList ns) a w) : wpO P ops S et sl QT (.seg ns t) a w := h
theorem wpO_both {QT : Act → World → Prop} {i j : Nat} {ti tj : Ord} {a : Act} {w : World} (h1 : wpT P ops S et sl (wpO P ops S et sl QT ti) (pickL ops.toList [i]) a w) (h2 : wpT P ops S et sl (wpO P ops S et sl QT tj) (pickL ops.toList [j]) a w) : wpO P ops S et sl QT (.both i j ti tj) a w := ⟨h1, h2⟩
theorem wpO_three {QT : Act → World → Prop} {i j k : Nat} {ti tj tk : Ord} {a : Act} {w : World} (h1 : wpT P ops S et sl (wpO P ops S et sl QT ti) (pickL ops.toList [i]) a w) (h2 : wpT P ops S et sl (wpO P ops S et sl QT tj) (pickL ops.toList [j]) a w) (h3 : wpT P ops S et sl (wpO P ops S et sl QT tk) (pickL ops.toList [k]) a w) : wpO P ops S et sl QT (.three i j k ti tj tk) a w := ⟨h1, h2, h3⟩
end
end Rg
end Go.Proofs.YtajmfonepnkofaaDoor
