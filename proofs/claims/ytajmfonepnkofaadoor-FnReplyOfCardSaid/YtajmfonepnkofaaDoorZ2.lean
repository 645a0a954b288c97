/-
  What 'IP' rests on, part 2 of 11 (texts of this seat put together: RegA IH HI NA NB HA RegK RegG HB).
  Conditions: none.
-/
import Derived.Test.YtajmfonepnkofaaDoorZ1
import Derived.Laws.StructEq
import Derived.WalkLawsBesides
import Derived.WalkSpells
namespace Go.Proofs.YtajmfonepnkofaaDoor
open Go.RowKit Rg
set_option linter.unusedVariables false
set_option linter.unusedSimpArgs false

namespace Rg
section
variable {P : Program} {ops : Array Oper} {Q : Exit → Act → World → Prop} {S : World → Prop} {et sl : List Tmp} {md : Region.Mode}

/-- Orders: a list of operations, then the rest; or one of two first. -/
inductive Ord where
  | done
  | seg (ns : List Nat) (t : Ord)
  | both (i j : Nat) (ti tj : Ord)
  | three (i j k : Nat) (ti tj tk : Ord)
def Ord.len : Ord → Nat
  | .done => 0
  | .seg ns t => ns.length + t.len
  | .both _ _ ti _ => ti.len + 1
  | .three _ _ _ ti _ _ => ti.len + 1

def wpO (P : Program) (ops : Array Oper) (S : World → Prop) (et sl : List Tmp) (QT : Act → World → Prop) : Ord → Act → World → Prop
  | .done, a, w => QT a w
  | .seg ns t, a, w => wpT P ops S et sl (wpO P ops S et sl QT t) (pickL ops.toList ns) a w
  | .both i j ti tj, a, w => wpT P ops S et sl (wpO P ops S et sl QT ti) (pickL ops.toList [i]) a w ∧ wpT P ops S et sl (wpO P ops S et sl QT tj) (pickL ops.toList [j]) a w
  | .three i j k ti tj tk, a, w => wpT P ops S et sl (wpO P ops S et sl QT ti) (pickL ops.toList [i]) a w ∧ wpT P ops S et sl (wpO P ops S et sl QT tj) (pickL ops.toList [j]) a w ∧ wpT P ops S et sl (wpO P ops S et sl QT tk) (pickL ops.toList [k]) a w

def okSeg (zs : List TypeId) (md : Region.Mode) (ops : Array Oper) (et sl : List Tmp) : List Nat → Array Bool → Bool
  | [], listed => true
  | i :: ns, listed =>
    (match ops[i]? with
     | none => false
     | some oi =>
       if isE et oi then decide (Region.ready md ops listed = [i])
       else
         let D := before md ops listed i
         (Region.ready md ops listed).contains i && closedB md ops D i &&
         (List.range ops.size).all (fun j => (!listed.getD j false || (j != i && D.getD j false)) && (j == i || listed.getD j true || !D.getD j false ||
           match ops[j]? with
           | none => true
           | some oj => oi.apart ops oj && (!isE et oj || cleanK zs oi.op || inT sl oi)))) &&
    okSeg zs md ops et sl ns (listed.setIfInBounds i true)
def listAll (ns : List Nat) (listed : Array Bool) : Array Bool := ns.foldl (fun l i => l.setIfInBounds i true) listed
theorem listAll_size (ns : List Nat) : ∀ listed : Array Bool, (listAll ns listed).size = listed.size := by
  induction ns with
  | nil => intro l; rfl
  | cons i ns ih => intro l; show (listAll ns (l.setIfInBounds i true)).size = _; rw [ih]; simp
def okO (zs : List TypeId) (md : Region.Mode) (ops : Array Oper) (et sl : List Tmp) : Ord → Array Bool → Bool
  | .done, listed => (Region.ready md ops listed).isEmpty
  | .seg ns t, listed => okSeg zs md ops et sl ns listed && okO zs md ops et sl t (listAll ns listed)
  | .both i j ti tj, listed => !(Region.ready md ops listed).isEmpty && (Region.ready md ops listed).all (fun k => k == i || k == j) && (ops[i]?).isSome && (ops[j]?).isSome && decide (ti.len = tj.len) &&
      okO zs md ops et sl ti (listed.setIfInBounds i true) && okO zs md ops et sl tj (listed.setIfInBounds j true)
  | .three i j k ti tj tk, listed => !(Region.ready md ops listed).isEmpty && (Region.ready md ops listed).all (fun m => m == i || m == j || m == k) && (ops[i]?).isSome && (ops[j]?).isSome && (ops[k]?).isSome && decide (ti.len = tj.len) && decide (ti.len = tk.len) &&
      okO zs md ops et sl ti (listed.setIfInBounds i true) && okO zs md ops et sl tj (listed.setIfInBounds j true) && okO zs md ops et sl tk (listed.setIfInBounds k true)

theorem wpAnyT_seg {zs : List TypeId} (hz' : sizedB P zs = true) {QT QK : Act → World → Prop} (hs : Region.noSelect ops = true) {m : Nat} : ∀ (ns : List Nat) (listed : Array Bool) (a : Act) (w : World), listed.size ≤ ops.size → okSeg zs md ops et sl ns listed = true → S w →
    (∀ a' w', S w' → QK a' w' → wpAnyT P md ops S et sl QT m (listAll ns listed) a' w') →
    wpT P ops S et sl QK (pickL ops.toList ns) a w → wpAnyT P md ops S et sl QT (ns.length + m) listed a w
  | [], listed, a, w, _, hB, hS, hQ, h => by
    simp only [List.length_nil, Nat.zero_add]
    exact hQ a w hS h
  | i :: ns, listed, a, w, hz, hB, hS, hQ, h => by
    rw [show (i :: ns).length + m = (ns.length + m) + 1 by simp; omega]
    simp only [okSeg, Bool.and_eq_true] at hB
    obtain ⟨hB1, hB2⟩ := hB
    cases hi : ops[i]? with
    | none => rw [hi] at hB1; simp at hB1
    | some oi =>
      rw [hi] at hB1
      have hl : ops.toList[i]? = some oi := by simpa using hi
      simp only [pickL, hl, wpT] at h
      by_cases hE : isE et oi = true
      · simp only [hE, if_true, decide_eq_true_eq] at hB1
        refine ⟨fun h0 => (by rw [hB1] at h0; cases h0), fun j hj => ?_⟩
        rw [hB1] at hj
        have hj' : j = i := by simpa using hj
        subst hj'
        have goal : opT P ops S et sl oi (wpAnyT P md ops S et sl QT (ns.length + m) (listed.setIfInBounds j true)) a w := by
          unfold opT at h ⊢
          by_cases hw : Region.wanted oi (yielded ops a.tmps) = true
          · rw [if_pos hw, if_pos hE] at h
            rw [if_pos hw, if_pos hE]
            exact Oper.wp_mono (fun a' w' h' => ⟨h'.1, wpAnyT_seg hz' hs ns _ a' w' (by simpa using hz) hB2 h'.1 hQ h'.2⟩) h
          · rw [if_neg hw] at h
            rw [if_neg hw]
            exact wpAnyT_seg hz' hs ns _ _ _ (by simpa using hz) hB2 hS hQ h
        unfold opAt
        rw [hi]
        exact goal
      · have hE' : isE et oi = false := by simpa using hE
        simp only [hE', Bool.false_eq_true, if_false, Bool.and_eq_true] at hB1
        obtain ⟨⟨hr, hcl⟩, hall⟩ := hB1
        have hall' := fun j oj (hj : ops[j]? = some oj) => List.all_eq_true.1 hall j (List.mem_range.2 (Array.getElem?_eq_some_iff.1 hj).1)
        have hy : ∃ v, YT P ops S (cleanK zs oi.op || inT sl oi) oi v a w ∧ wpT P ops S et sl QK (pickL ops.toList ns) (a.put oi.dst v) w := by
          unfold opT at h
          by_cases hw : Region.wanted oi (yielded ops a.tmps) = true
          · rw [if_pos hw, if_neg hE] at h
            obtain ⟨v, h1, h2, h3⟩ := h
            refine ⟨v, .inl ⟨hw, h1, fun hst w2 hw2 => ?_⟩, h3⟩
            rcases Bool.or_eq_true _ _ ▸ hst with hk | hk
            · exact clean_gives hz' hk h1 w2
            · exact h2 hk w2 hw2
          · rw [if_neg hw] at h
            exact ⟨undef, .inr ⟨by simpa using hw, rfl⟩, h⟩
        obtain ⟨v, hy, hK⟩ := hy
        refine wpAnyT_first hi (Region.noSelect_spec hs) hE' (fun hsl => by simp [hsl]) hcl (ns.length + m) listed a w ?_ ?_ (by simpa using hr) hy hS (wpAnyT_seg hz' hs ns _ _ _ (by simpa using hz) hB2 hS hQ hK)
        · intro j oj hj hne hun hd
          have h1 := (Bool.and_eq_true _ _ ▸ hall' j oj hj).2
          simp only [hj, hne, hun, hd, Bool.or_eq_true, beq_iff_eq, Bool.and_eq_true, Bool.not_eq_true', false_or, Bool.false_eq_true, Bool.true_eq_false] at h1
          refine ⟨h1.1, fun he => ?_⟩
          rcases h1.2 with (h2 | h2) | h2
          · rw [he] at h2; cases h2
          · simp [h2]
          · simp [h2]
        · intro j hj
          have hlt : j < ops.size := by
            rcases Nat.lt_or_ge j listed.size with h' | h'
            · omega
            · simp [Array.getElem?_eq_none h'] at hj
          have h1 := List.all_eq_true.1 hall j (List.mem_range.2 hlt)
          simp only [hj, Bool.and_eq_true, Bool.or_eq_true, Bool.not_true, Bool.false_eq_true, false_or, bne_iff_ne] at h1
          exact h1.1

/-- One operation, then the rest. -/
theorem opAt_of {i : Nat} {QK : Act → World → Prop} {K : Act → World → Prop} {a : Act} {w : World} (hi : (ops[i]?).isSome = true) (hS : S w) (h : wpT P ops S et sl QK (pickL ops.toList [i]) a w) (hQ : ∀ a' w', S w' → QK a' w' → K a' w') : opAt P ops S et sl i K a w := by
  obtain ⟨oi, hi⟩ := Option.isSome_iff_exists.1 hi
  have hl : ops.toList[i]? = some oi := by simpa using hi
  simp only [pickL, hl, wpT] at h
  unfold opAt
  rw [hi]
  show opT P ops S et sl oi K a w
  unfold opT at h ⊢
  by_cases hw : Region.wanted oi (yielded ops a.tmps) = true
  · rw [if_pos hw] at h ⊢
    by_cases hE : isE et oi = true
    · rw [if_pos hE] at h ⊢
      exact Oper.wp_mono (fun a' w' h' => ⟨h'.1, hQ a' w' h'.1 h'.2⟩) h
    · rw [if_neg hE] at h ⊢
      obtain ⟨v, h1, h2, h3⟩ := h
      exact ⟨v, h1, h2, hQ _ _ hS h3⟩
  · rw [if_neg hw] at h ⊢
    exact hQ _ _ hS h

theorem wpAnyT_of_ord {zs : List TypeId} (hz' : sizedB P zs = true) {QT : Act → World → Prop} (hs : Region.noSelect ops = true) : ∀ (t : Ord) (listed : Array Bool) (a : Act) (w : World), listed.size ≤ ops.size → okO zs md ops et sl t listed = true → S w →
    wpO P ops S et sl QT t a w → wpAnyT P md ops S et sl QT t.len listed a w
  | .done, listed, a, w, _, hB, _, h => ⟨by simpa [okO] using hB, h⟩
  | .seg ns t, listed, a, w, hz, hB, hS, h => by
    simp only [okO, Bool.and_eq_true] at hB
    exact wpAnyT_seg hz' hs ns listed a w hz hB.1 hS (fun a' w' hS' h' => wpAnyT_of_ord hz' hs t _ a' w' (by rw [listAll_size]; exact hz) hB.2 hS' h') h
  | .both i j ti tj, listed, a, w, hz, hB, hS, h => by
    simp only [okO, Bool.and_eq_true, decide_eq_true_eq] at hB
    obtain ⟨⟨⟨⟨⟨⟨h1, h2⟩, h3⟩, h4⟩, h5⟩, h6⟩, h7⟩ := hB
    refine ⟨fun h0 => (by rw [h0] at h1; simp at h1), fun k hk => ?_⟩
    have hk2 := List.all_eq_true.1 h2 k hk
    simp only [Bool.or_eq_true, beq_iff_eq] at hk2
    rcases hk2 with rfl | rfl
    · exact opAt_of h3 hS h.1 (fun a' w' hS' h' => wpAnyT_of_ord hz' hs ti _ a' w' (by simpa using hz) h6 hS' h')
    · refine opAt_of h4 hS h.2 (fun a' w' hS' h' => ?_)
      show wpAnyT P md ops S et sl QT ti.len _ a' w'
      rw [h5]
      exact wpAnyT_of_ord hz' hs tj _ a' w' (by simpa using hz) h7 hS' h'
  | .three i j k ti tj tk, listed, a, w, hz, hB, hS, h => by
    simp only [okO, Bool.and_eq_true, decide_eq_true_eq] at hB
    obtain ⟨⟨⟨⟨⟨⟨⟨⟨⟨h1, h2⟩, h3⟩, h4⟩, h5⟩, h6⟩, h7⟩, h8⟩, h9⟩, h10⟩ := hB
    refine ⟨fun h0 => (by rw [h0] at h1; simp at h1), fun m hm => ?_⟩
    have hm2 := List.all_eq_true.1 h2 m hm
    simp only [Bool.or_eq_true, beq_iff_eq] at hm2
    rcases hm2 with (rfl | rfl) | rfl
    · exact opAt_of h3 hS h.1 (fun a' w' hS' h' => wpAnyT_of_ord hz' hs ti _ a' w' (by simpa using hz) h8 hS' h')
    · refine opAt_of h4 hS h.2.1 (fun a' w' hS' h' => ?_)
      show wpAnyT P md ops S et sl QT ti.len _ a' w'
      rw [h6]
      exact wpAnyT_of_ord hz' hs tj _ a' w' (by simpa using hz) h9 hS' h'
    · refine opAt_of h5 hS h.2.2 (fun a' w' hS' h' => ?_)
      show wpAnyT P md ops S et sl QT ti.len _ a' w'
      rw [h7]
      exact wpAnyT_of_ord hz' hs tk _ a' w' (by simpa using hz) h10 hS' h'

/-- THE LAW: a region that draws its order, walked along the orders 't'. -/
theorem wp_region_O {id : Nat} {a : Act} {w : World} {l : List Oper} (S : World → Prop) (zs : List TypeId) (et sl : List Tmp) (t : Ord) (hz : sizedB P zs = true) (hm : P.follows .mixedOrders = true)
    (hB : (Region.noSelect l.toArray && decide (t.len = l.length) && okO zs .any l.toArray et sl t (Array.replicate l.length false)) = true) (hS : S w.drew)
    (h : wpO P l.toArray S et sl (fun a' w' => Q .normal a' w') t a w.drew) : (Code.region id l.toArray true).wp P Q a w := by
  simp only [Bool.and_eq_true, decide_eq_true_eq] at hB
  obtain ⟨⟨hs, hl⟩, hB⟩ := hB
  refine wp_region_any hm ?_
  have h1 := wpAnyT_of_ord (P := P) (md := .any) (S := S) (et := et) (sl := sl) (QT := fun a' w' => Q .normal a' w') hz hs t (Array.replicate l.length false) a w.drew (by simp) hB hS h
  have h2 := wpAny_of_T (P := P) (Q := Q) (fun _ _ h => h) _ _ _ _ h1
  rw [hl] at h2
  simpa using h2
theorem wpO_done {QT : Act → World → Prop} {a : Act} {w : World} (h : QT a w) : wpO P ops S et sl QT .done a w := h
theorem wpO_seg {QT : Act → World → Prop} {ns : List Nat} {t : Ord} {a : Act} {w : World} (h : wpT P ops S et sl (wpO P ops S et sl QT t) (pickL ops.toList ns) a w) : wpO P ops S et sl QT (.seg ns t) a w := h
theorem wpO_both {QT : Act → World → Prop} {i j : Nat} {ti tj : Ord} {a : Act} {w : World} (h1 : wpT P ops S et sl (wpO P ops S et sl QT ti) (pickL ops.toList [i]) a w) (h2 : wpT P ops S et sl (wpO P ops S et sl QT tj) (pickL ops.toList [j]) a w) : wpO P ops S et sl QT (.both i j ti tj) a w := ⟨h1, h2⟩
theorem wpO_three {QT : Act → World → Prop} {i j k : Nat} {ti tj tk : Ord} {a : Act} {w : World} (h1 : wpT P ops S et sl (wpO P ops S et sl QT ti) (pickL ops.toList [i]) a w) (h2 : wpT P ops S et sl (wpO P ops S et sl QT tj) (pickL ops.toList [j]) a w) (h3 : wpT P ops S et sl (wpO P ops S et sl QT tk) (pickL ops.toList [k]) a w) : wpO P ops S et sl QT (.three i j k ti tj tk) a w := ⟨h1, h2, h3⟩
end
end Rg
end Go.Proofs.YtajmfonepnkofaaDoor
namespace Go.Proofs.YtajmfonepnkofaaDoor
open Go.RowKit Rg
set_option linter.unusedVariables false
set_option linter.unusedSimpArgs false

theorem frozen_blk5 {w w' : World} {b j : Nat} (h : w'.heap[b]? = w.heap[b]?) : w'.frozen? ⟨b, j, none⟩ = w.frozen? ⟨b, j, none⟩ := by simp [World.frozen?, h]
def Box5 (w : World) (b : Nat) (x0 x1 x2 x3 x4 : Int) : Prop := w.cell? ⟨b, 0, none⟩ = some (.int .i64 x0) ∧ w.cell? ⟨b, 1, none⟩ = some (.int .i64 x1) ∧ w.cell? ⟨b, 2, none⟩ = some (.int .i64 x2) ∧ w.cell? ⟨b, 3, none⟩ = some (.int .i64 x3) ∧ w.cell? ⟨b, 4, none⟩ = some (.int .i64 x4) ∧ w.frozen? ⟨b, 0, none⟩ = false ∧ w.frozen? ⟨b, 1, none⟩ = false ∧ w.frozen? ⟨b, 2, none⟩ = false ∧ w.frozen? ⟨b, 3, none⟩ = false ∧ w.frozen? ⟨b, 4, none⟩ = false
theorem Box5.keep {w w' : World} {b : Nat} {x0 x1 x2 x3 x4 : Int} (h : Box5 w b x0 x1 x2 x3 x4) (hb : w'.heap[b]? = w.heap[b]?) : Box5 w' b x0 x1 x2 x3 x4 := by
  obtain ⟨h0, h1, h2, h3, h4, f0, f1, f2, f3, f4⟩ := h
  exact ⟨(World.cell?_of_block hb).trans h0, (World.cell?_of_block hb).trans h1, (World.cell?_of_block hb).trans h2, (World.cell?_of_block hb).trans h3, (World.cell?_of_block hb).trans h4, (frozen_blk5 hb).trans f0, (frozen_blk5 hb).trans f1, (frozen_blk5 hb).trans f2, (frozen_blk5 hb).trans f3, (frozen_blk5 hb).trans f4⟩
theorem Box5.made (w : World) (x0 x1 x2 x3 x4 : Int) (e : TypeId) : Box5 (w.alloc (.cells #[.int .i64 x0, .int .i64 x1, .int .i64 x2, .int .i64 x3, .int .i64 x4] e)) w.heap.size x0 x1 x2 x3 x4 :=
  ⟨by simp, by simp, by simp, by simp, by simp, by simp only [World.frozen?, heap_alloc_new]; simp, by simp only [World.frozen?, heap_alloc_new]; simp, by simp only [World.frozen?, heap_alloc_new]; simp, by simp only [World.frozen?, heap_alloc_new]; simp, by simp only [World.frozen?, heap_alloc_new]; simp⟩
theorem Box5.lt {w : World} {b : Nat} {x0 x1 x2 x3 x4 : Int} (h : Box5 w b x0 x1 x2 x3 x4) : b < w.heap.size := lt_of_cell h.1
theorem Box5.only {w w' : World} {b : Nat} {x0 x1 x2 x3 x4 : Int} {g : Option Nat} (h : Box5 w b x0 x1 x2 x3 x4) (ho : Only w.heap.size g w w') (hne : g ≠ some b) : Box5 w' b x0 x1 x2 x3 x4 := h.keep (ho.block b h.lt hne)
theorem Box5.set0 {w : World} {b : Nat} {x0 x1 x2 x3 x4 v : Int} (h : Box5 w b x0 x1 x2 x3 x4) : Box5 (w.setCell ⟨b, 0, none⟩ (.int .i64 v)) b v x1 x2 x3 x4 := by
  obtain ⟨h0, h1, h2, h3, h4, f0, f1, f2, f3, f4⟩ := h
  exact ⟨by go_simp, by go_simp, by go_simp, by go_simp, by go_simp, by go_simp, by go_simp, by go_simp, by go_simp, by go_simp⟩
theorem Box5.set1 {w : World} {b : Nat} {x0 x1 x2 x3 x4 v : Int} (h : Box5 w b x0 x1 x2 x3 x4) : Box5 (w.setCell ⟨b, 1, none⟩ (.int .i64 v)) b x0 v x2 x3 x4 := by
  obtain ⟨h0, h1, h2, h3, h4, f0, f1, f2, f3, f4⟩ := h
  exact ⟨by go_simp, by go_simp, by go_simp, by go_simp, by go_simp, by go_simp, by go_simp, by go_simp, by go_simp, by go_simp⟩
theorem Box5.set2 {w : World} {b : Nat} {x0 x1 x2 x3 x4 v : Int} (h : Box5 w b x0 x1 x2 x3 x4) : Box5 (w.setCell ⟨b, 2, none⟩ (.int .i64 v)) b x0 x1 v x3 x4 := by
  obtain ⟨h0, h1, h2, h3, h4, f0, f1, f2, f3, f4⟩ := h
  exact ⟨by go_simp, by go_simp, by go_simp, by go_simp, by go_simp, by go_simp, by go_simp, by go_simp, by go_simp, by go_simp⟩
theorem Box5.set3 {w : World} {b : Nat} {x0 x1 x2 x3 x4 v : Int} (h : Box5 w b x0 x1 x2 x3 x4) : Box5 (w.setCell ⟨b, 3, none⟩ (.int .i64 v)) b x0 x1 x2 v x4 := by
  obtain ⟨h0, h1, h2, h3, h4, f0, f1, f2, f3, f4⟩ := h
  exact ⟨by go_simp, by go_simp, by go_simp, by go_simp, by go_simp, by go_simp, by go_simp, by go_simp, by go_simp, by go_simp⟩
theorem Box5.set4 {w : World} {b : Nat} {x0 x1 x2 x3 x4 v : Int} (h : Box5 w b x0 x1 x2 x3 x4) : Box5 (w.setCell ⟨b, 4, none⟩ (.int .i64 v)) b x0 x1 x2 x3 v := by
  obtain ⟨h0, h1, h2, h3, h4, f0, f1, f2, f3, f4⟩ := h
  exact ⟨by go_simp, by go_simp, by go_simp, by go_simp, by go_simp, by go_simp, by go_simp, by go_simp, by go_simp, by go_simp⟩
theorem Box5.other {w : World} {b c i : Nat} {x0 x1 x2 x3 x4 v : Int} (h : Box5 w b x0 x1 x2 x3 x4) (hne : b ≠ c) : Box5 (w.setCell ⟨c, i, none⟩ (.int .i64 v)) b x0 x1 x2 x3 x4 := h.keep (Below.heap_setCell _ ⟨c, i, none⟩ _ b hne)
theorem Box5.below {w w' : World} {b : Nat} {x0 x1 x2 x3 x4 : Int} (h : Box5 w b x0 x1 x2 x3 x4) (ho : Below w.heap.size w w') : Box5 w' b x0 x1 x2 x3 x4 := h.keep (ho.block b h.lt)
theorem fin5 {g P : Nat} {w w4 : World} (t : ReqV) (hg : g < w.heap.size) (hr : Rd w4 g P) (ho : Only w.heap.size (some g) w w4) : Rd (((((w4.setCell ⟨w.heap.size, 0, none⟩ (.int .i64 t.1)).setCell ⟨w.heap.size, 1, none⟩ (.int .i64 t.2.1)).setCell ⟨w.heap.size, 2, none⟩ (.int .i64 t.2.2.1)).setCell ⟨w.heap.size, 3, none⟩ (.int .i64 t.2.2.2.1)).setCell ⟨w.heap.size, 4, none⟩ (.int .i64 t.2.2.2.2)) g P ∧ Only w.heap.size (some g) w (((((w4.setCell ⟨w.heap.size, 0, none⟩ (.int .i64 t.1)).setCell ⟨w.heap.size, 1, none⟩ (.int .i64 t.2.1)).setCell ⟨w.heap.size, 2, none⟩ (.int .i64 t.2.2.1)).setCell ⟨w.heap.size, 3, none⟩ (.int .i64 t.2.2.2.1)).setCell ⟨w.heap.size, 4, none⟩ (.int .i64 t.2.2.2.2)) := by
  have h1 : g + 1 ≤ w.heap.size := hg
  have h2 : w.heap.size ≤ w.heap.size := Nat.le_refl _
  exact ⟨hr.below ((((((Below.refl (g + 1) w4).setCell h1 _).setCell h1 _).setCell h1 _).setCell h1 _).setCell h1 _) (by omega), ho.trans (Only.of_below ((((((Below.refl w.heap.size w4).setCell h2 _).setCell h2 _).setCell h2 _).setCell h2 _).setCell h2 _))⟩
set_option maxHeartbeats 2000000 in
theorem l20ReqS_c (g P : Nat) (w : World) (hr : Rd w g P) (hP : P ≤ 100000) :
    Calls Tryd.prog 62 #[.pointer (some ⟨g, 0, none⟩)] w fun e w' => ∃ t : ReqV, e = .returned (.agg #[.int .i64 t.1, .int .i64 t.2.1, .int .i64 t.2.2.1, .int .i64 t.2.2.2.1, .int .i64 t.2.2.2.2]) ∧ ((0 ≤ t.2.1 ∧ t.2.1 ≤ 100) ∧ okA t ∧ t.1 ≤ 3) ∧ Rd w' g (P + 20) ∧ Only w.heap.size (some g) w w' := by
  have hg := hr.lt
  have hgb : some g ≠ some w.heap.size := by intro h; injection h with h; omega
  have hb0 : Below w.heap.size w (w.alloc (.cells #[.int .i64 0, .int .i64 0, .int .i64 0, .int .i64 0, .int .i64 0] 37)) := (Below.refl _ _).alloc (Nat.le_refl _) _
  have hx0 := Box5.made w 0 0 0 0 0 37
  have hr0 := hr.keep hb0
  have ho0 : Only w.heap.size (some g) w (w.alloc (.cells #[.int .i64 0, .int .i64 0, .int .i64 0, .int .i64 0, .int .i64 0] 37)) := Only.of_below hb0
  go_enter Tryd.func62, Tryd.ntmps62
  go_wp2_with fail
  generalize w.alloc (.cells #[.int .i64 0, .int .i64 0, .int .i64 0, .int .i64 0, .int .i64 0] 37) = w0 at *
  refine (pick_c g _ 3 w0 hr0 (by omega) (by omega)).mono ?_
  rintro e w1 ⟨k1, rfl, hk1, hr1, h1⟩
  have hx1 := hx0.only h1 hgb
  have ho1 := ho0.trans (h1.mono ho0.size)
  have hk1' : (k1 : Int) ≤ 2 := by have := hk1.1 (by omega); omega
  clear hk1 h1
  go_wp2_with fail
  refine (pick_c g _ 6 w1 hr1 (by omega) (by omega)).mono ?_
  rintro e w2 ⟨k2, rfl, hk2, hr2, h2⟩
  have hx2 := hx1.only h2 hgb
  have ho2 := ho1.trans (h2.mono ho1.size)
  have hk2' : (k2 : Int) ≤ 5 := by have := hk2.1 (by omega); omega
  clear hk2 h2
  go_wp2_with fail
  refine (pick_c g _ 5 w2 hr2 (by omega) (by omega)).mono ?_
  rintro e w3 ⟨k3, rfl, hk3, hr3, h3⟩
  have hx3 := hx2.only h3 hgb
  have ho3 := ho2.trans (h3.mono ho2.size)
  have hk3' : (k3 : Int) ≤ 4 := by have := hk3.1 (by omega); omega
  clear hk3 h3
  have hA := (Below.refl w3.heap.size w3).alloc (Nat.le_refl _) (.cells #[.int .i64 (1 + (k1 : Int)), .int .i64 (1 + (k2 : Int)), .int .i64 (1 + (k3 : Int)), .int .i64 0, .int .i64 0] 37)
  have hy4 := Box5.made w3 (1 + (k1 : Int)) (1 + (k2 : Int)) (1 + (k3 : Int)) 0 0 37
  have hx4 := hx3.below hA
  have hr4 := hr3.keep hA
  have ho4 := ho3.trans ((Only.of_below hA).mono ho3.size)
  have hgy : some g ≠ some w3.heap.size := by intro h; injection h with h; have := hr3.lt; omega
  have hgw : g + 1 ≤ w3.heap.size := hr3.lt
  have hww : w.heap.size ≤ w3.heap.size := ho3.size
  have hwn : w.heap.size ≠ w3.heap.size := by have := hx3.lt; omega
  have hwq : w3.heap.size ≠ w.heap.size := fun h => hwn h.symm
  clear hr0 hr1 hr2 hr3 hx0 hx1 hx2 hx3 ho0 ho1 ho2 ho3 hA hb0 hr
  have hk1n : (0 : Int) ≤ (k1 : Int) := by omega
  by_cases c : (k3 : Int) = 1
  · have d2 : ((1 + (k3 : Int)) == 2) = true := by simp; omega
    have ch := hide c
    clear c
    obtain ⟨y0, y1, y2, y3, y4, yf0, yf1, yf2, yf3, yf4⟩ := id hy4
    obtain ⟨x0, x1, x2, x3, x4, xf0, xf1, xf2, xf3, xf4⟩ := id hx4
    go_wp2_with fail
    refine (pick_c g _ 3 (w3.alloc (.cells #[.int .i64 (1 + (k1 : Int)), .int .i64 (1 + (k2 : Int)), .int .i64 (1 + (k3 : Int)), .int .i64 0, .int .i64 0] 37)) hr4 (by omega) (by omega)).mono ?_
    rintro e w5 ⟨k5, rfl, hk5, hr5, h5⟩
    have hx5 := hx4.only h5 hgb
    have hy5 := hy4.only h5 hgy
    have ho5 := ho4.trans (h5.mono ho4.size)
    have hk5' : (k5 : Int) ≤ 2 := by have := hk5.1 (by omega); omega
    clear hk5 h5
    obtain ⟨y0, y1, y2, y3, y4, yf0, yf1, yf2, yf3, yf4⟩ := id hy5
    obtain ⟨x0, x1, x2, x3, x4, xf0, xf1, xf2, xf3, xf4⟩ := id hx5
    have hr6 := hr5.below (w' := (w5.setCell ⟨w3.heap.size, 3, none⟩ (.int .i64 ((k5 : Int) - 1)))) ((Below.refl (g + 1) w5).setCell hgw _) (by omega)
    have ho6 := ho5.trans (w' := (w5.setCell ⟨w3.heap.size, 3, none⟩ (.int .i64 ((k5 : Int) - 1)))) (Only.of_below ((Below.refl w.heap.size w5).setCell hww _))
    have hy6 := hy5.set3 (v := (k5 : Int) - 1)
    have hx6 := hx5.other (c := w3.heap.size) (i := 3) (v := (k5 : Int) - 1) hwn
    go_wp2_with fail
    generalize (w5.setCell ⟨w3.heap.size, 3, none⟩ (.int .i64 ((k5 : Int) - 1))) = w6 at *
    refine (pick_c g _ 3 w6 hr6 (by omega) (by omega)).mono ?_
    rintro e w7 ⟨k7, rfl, hk7, hr7, h7⟩
    have hx7 := hx6.only h7 hgb
    have hy7 := hy6.only h7 hgy
    have ho7 := ho6.trans (h7.mono ho6.size)
    have hk7' : (k7 : Int) ≤ 2 := by have := hk7.1 (by omega); omega
    clear hk7 h7
    have hr8 := hr7.below (w' := (w7.setCell ⟨w3.heap.size, 4, none⟩ (.int .i64 ((k7 : Int) - 1)))) ((Below.refl (g + 1) w7).setCell hgw _) (by omega)
    have ho8 := ho7.trans (w' := (w7.setCell ⟨w3.heap.size, 4, none⟩ (.int .i64 ((k7 : Int) - 1)))) (Only.of_below ((Below.refl w.heap.size w7).setCell hww _))
    have hy8 := hy7.set4 (v := (k7 : Int) - 1)
    have hx8 := hx7.other (c := w3.heap.size) (i := 4) (v := (k7 : Int) - 1) hwn
    obtain ⟨y0, y1, y2, y3, y4, yf0, yf1, yf2, yf3, yf4⟩ := id hy7
    obtain ⟨x0, x1, x2, x3, x4, xf0, xf1, xf2, xf3, xf4⟩ := id hx7
    go_wp2
    refine bodyPost_ret (v := .agg #[.int .i64 (1 + (k1 : Int)), .int .i64 (1 + (k2 : Int)), .int .i64 (1 + (k3 : Int)), .int .i64 ((k5 : Int) - 1), .int .i64 ((k7 : Int) - 1)]) (by simp [results, Tryd.results62, go_sem, x0, x1, x2, x3, x4]) rfl ⟨(1 + (k1 : Int), 1 + (k2 : Int), 1 + (k3 : Int), (k5 : Int) - 1, (k7 : Int) - 1), rfl, ?_⟩
    exact ⟨⟨⟨by dsimp only; omega, by dsimp only; omega⟩, by (try have chq := ch.out); unfold okA rng; dsimp only; omega, by dsimp only; omega⟩, (fin5 (1 + (k1 : Int), 1 + (k2 : Int), 1 + (k3 : Int), (k5 : Int) - 1, (k7 : Int) - 1) hg hr8 ho8).1.mono (by omega), (fin5 (1 + (k1 : Int), 1 + (k2 : Int), 1 + (k3 : Int), (k5 : Int) - 1, (k7 : Int) - 1) hg hr8 ho8).2⟩
  · skip
    by_cases c : (k3 : Int) = 3
    · have d2 : ((1 + (k3 : Int)) == 2) = false := by simp; omega
      have d4 : ((1 + (k3 : Int)) == 4) = true := by simp; omega
      have ch := hide c
      clear c
      obtain ⟨y0, y1, y2, y3, y4, yf0, yf1, yf2, yf3, yf4⟩ := id hy4
      obtain ⟨x0, x1, x2, x3, x4, xf0, xf1, xf2, xf3, xf4⟩ := id hx4
      go_wp2_with fail
      refine (pick_c g _ 3 (w3.alloc (.cells #[.int .i64 (1 + (k1 : Int)), .int .i64 (1 + (k2 : Int)), .int .i64 (1 + (k3 : Int)), .int .i64 0, .int .i64 0] 37)) hr4 (by omega) (by omega)).mono ?_
      rintro e w5 ⟨k5, rfl, hk5, hr5, h5⟩
      have hx5 := hx4.only h5 hgb
      have hy5 := hy4.only h5 hgy
      have ho5 := ho4.trans (h5.mono ho4.size)
      have hk5' : (k5 : Int) ≤ 2 := by have := hk5.1 (by omega); omega
      clear hk5 h5
      have hr6 := hr5.below (w' := (w5.setCell ⟨w3.heap.size, 3, none⟩ (.int .i64 (1 + (k5 : Int))))) ((Below.refl (g + 1) w5).setCell hgw _) (by omega)
      have ho6 := ho5.trans (w' := (w5.setCell ⟨w3.heap.size, 3, none⟩ (.int .i64 (1 + (k5 : Int))))) (Only.of_below ((Below.refl w.heap.size w5).setCell hww _))
      have hy6 := hy5.set3 (v := 1 + (k5 : Int))
      have hx6 := hx5.other (c := w3.heap.size) (i := 3) (v := 1 + (k5 : Int)) hwn
      obtain ⟨y0, y1, y2, y3, y4, yf0, yf1, yf2, yf3, yf4⟩ := id hy5
      obtain ⟨x0, x1, x2, x3, x4, xf0, xf1, xf2, xf3, xf4⟩ := id hx5
      go_wp2
      refine bodyPost_ret (v := .agg #[.int .i64 (1 + (k1 : Int)), .int .i64 (1 + (k2 : Int)), .int .i64 (1 + (k3 : Int)), .int .i64 (1 + (k5 : Int)), .int .i64 (0)]) (by simp [results, Tryd.results62, go_sem, x0, x1, x2, x3, x4]) rfl ⟨(1 + (k1 : Int), 1 + (k2 : Int), 1 + (k3 : Int), 1 + (k5 : Int), 0), rfl, ?_⟩
      exact ⟨⟨⟨by dsimp only; omega, by dsimp only; omega⟩, by (try have chq := ch.out); unfold okA rng; dsimp only; omega, by dsimp only; omega⟩, (fin5 (1 + (k1 : Int), 1 + (k2 : Int), 1 + (k3 : Int), 1 + (k5 : Int), 0) hg hr6 ho6).1.mono (by omega), (fin5 (1 + (k1 : Int), 1 + (k2 : Int), 1 + (k3 : Int), 1 + (k5 : Int), 0) hg hr6 ho6).2⟩
    · skip
      by_cases c : (k3 : Int) = 4
      · have d2 : ((1 + (k3 : Int)) == 2) = false := by simp; omega
        have d4 : ((1 + (k3 : Int)) == 4) = false := by simp; omega
        have d5 : ((1 + (k3 : Int)) == 5) = true := by simp; omega
        have ch := hide c
        clear c
        obtain ⟨y0, y1, y2, y3, y4, yf0, yf1, yf2, yf3, yf4⟩ := id hy4
        obtain ⟨x0, x1, x2, x3, x4, xf0, xf1, xf2, xf3, xf4⟩ := id hx4
        go_wp2_with fail
        refine (pick_c g _ 3 (w3.alloc (.cells #[.int .i64 (1 + (k1 : Int)), .int .i64 (1 + (k2 : Int)), .int .i64 (1 + (k3 : Int)), .int .i64 0, .int .i64 0] 37)) hr4 (by omega) (by omega)).mono ?_
        rintro e w5 ⟨k5, rfl, hk5, hr5, h5⟩
        have hx5 := hx4.only h5 hgb
        have hy5 := hy4.only h5 hgy
        have ho5 := ho4.trans (h5.mono ho4.size)
        have hk5' : (k5 : Int) ≤ 2 := by have := hk5.1 (by omega); omega
        clear hk5 h5
        obtain ⟨y0, y1, y2, y3, y4, yf0, yf1, yf2, yf3, yf4⟩ := id hy5
        obtain ⟨x0, x1, x2, x3, x4, xf0, xf1, xf2, xf3, xf4⟩ := id hx5
        have hr6 := hr5.below (w' := (w5.setCell ⟨w3.heap.size, 3, none⟩ (.int .i64 (1 + (k5 : Int))))) ((Below.refl (g + 1) w5).setCell hgw _) (by omega)
        have ho6 := ho5.trans (w' := (w5.setCell ⟨w3.heap.size, 3, none⟩ (.int .i64 (1 + (k5 : Int))))) (Only.of_below ((Below.refl w.heap.size w5).setCell hww _))
        have hy6 := hy5.set3 (v := 1 + (k5 : Int))
        have hx6 := hx5.other (c := w3.heap.size) (i := 3) (v := 1 + (k5 : Int)) hwn
        go_wp2_with fail
        generalize (w5.setCell ⟨w3.heap.size, 3, none⟩ (.int .i64 (1 + (k5 : Int)))) = w6 at *
        refine (pick_c g _ 3 w6 hr6 (by omega) (by omega)).mono ?_
        rintro e w7 ⟨k7, rfl, hk7, hr7, h7⟩
        have hx7 := hx6.only h7 hgb
        have hy7 := hy6.only h7 hgy
        have ho7 := ho6.trans (h7.mono ho6.size)
        have hk7' : (k7 : Int) ≤ 2 := by have := hk7.1 (by omega); omega
        clear hk7 h7
        have hr8 := hr7.below (w' := (w7.setCell ⟨w3.heap.size, 4, none⟩ (.int .i64 (1 + (k7 : Int))))) ((Below.refl (g + 1) w7).setCell hgw _) (by omega)
        have ho8 := ho7.trans (w' := (w7.setCell ⟨w3.heap.size, 4, none⟩ (.int .i64 (1 + (k7 : Int))))) (Only.of_below ((Below.refl w.heap.size w7).setCell hww _))
        have hy8 := hy7.set4 (v := 1 + (k7 : Int))
        have hx8 := hx7.other (c := w3.heap.size) (i := 4) (v := 1 + (k7 : Int)) hwn
        obtain ⟨y0, y1, y2, y3, y4, yf0, yf1, yf2, yf3, yf4⟩ := id hy7
        obtain ⟨x0, x1, x2, x3, x4, xf0, xf1, xf2, xf3, xf4⟩ := id hx7
        go_wp2
        refine bodyPost_ret (v := .agg #[.int .i64 (1 + (k1 : Int)), .int .i64 (1 + (k2 : Int)), .int .i64 (1 + (k3 : Int)), .int .i64 (1 + (k5 : Int)), .int .i64 (1 + (k7 : Int))]) (by simp [results, Tryd.results62, go_sem, x0, x1, x2, x3, x4]) rfl ⟨(1 + (k1 : Int), 1 + (k2 : Int), 1 + (k3 : Int), 1 + (k5 : Int), 1 + (k7 : Int)), rfl, ?_⟩
        exact ⟨⟨⟨by dsimp only; omega, by dsimp only; omega⟩, by (try have chq := ch.out); unfold okA rng; dsimp only; omega, by dsimp only; omega⟩, (fin5 (1 + (k1 : Int), 1 + (k2 : Int), 1 + (k3 : Int), 1 + (k5 : Int), 1 + (k7 : Int)) hg hr8 ho8).1.mono (by omega), (fin5 (1 + (k1 : Int), 1 + (k2 : Int), 1 + (k3 : Int), 1 + (k5 : Int), 1 + (k7 : Int)) hg hr8 ho8).2⟩
      · skip
        have d2 : ((1 + (k3 : Int)) == 2) = false := by simp; omega
        have d4 : ((1 + (k3 : Int)) == 4) = false := by simp; omega
        have d5 : ((1 + (k3 : Int)) == 5) = false := by simp; omega
        obtain ⟨y0, y1, y2, y3, y4, yf0, yf1, yf2, yf3, yf4⟩ := id hy4
        obtain ⟨x0, x1, x2, x3, x4, xf0, xf1, xf2, xf3, xf4⟩ := id hx4
        go_wp2
        refine bodyPost_ret (v := .agg #[.int .i64 (1 + (k1 : Int)), .int .i64 (1 + (k2 : Int)), .int .i64 (1 + (k3 : Int)), .int .i64 (0), .int .i64 (0)]) (by simp [results, Tryd.results62, go_sem, x0, x1, x2, x3, x4]) rfl ⟨(1 + (k1 : Int), 1 + (k2 : Int), 1 + (k3 : Int), 0, 0), rfl, ?_⟩
        exact ⟨⟨⟨by dsimp only; omega, by dsimp only; omega⟩, by (try have chq := ch.out); unfold okA rng; dsimp only; omega, by dsimp only; omega⟩, (fin5 (1 + (k1 : Int), 1 + (k2 : Int), 1 + (k3 : Int), 0, 0) hg hr4 ho4).1.mono (by omega), (fin5 (1 + (k1 : Int), 1 + (k2 : Int), 1 + (k3 : Int), 0, 0) hg hr4 ho4).2⟩
theorem l20Req_c (g P : Nat) (w : World) (hr : Rd w g P) (hP : P ≤ 100000) :
    Calls Tryd.prog 62 #[.pointer (some ⟨g, 0, none⟩)] w fun e w' => ∃ t : ReqV, e = .returned (.agg #[.int .i64 t.1, .int .i64 t.2.1, .int .i64 t.2.2.1, .int .i64 t.2.2.2.1, .int .i64 t.2.2.2.2]) ∧ (0 ≤ t.2.1 ∧ t.2.1 ≤ 100) ∧ Rd w' g (P + 20) ∧ Only w.heap.size (some g) w w' :=
  (l20ReqS_c g P w hr hP).mono fun e w' h => by obtain ⟨t, h1, h2, h3⟩ := h; exact ⟨t, h1, h2.1, h3⟩
set_option maxHeartbeats 2000000 in
theorem l20AnyReq_c (g P : Nat) (w : World) (hr : Rd w g P) (hP : P ≤ 100000) :
    Calls Tryd.prog 37 #[.pointer (some ⟨g, 0, none⟩)] w fun e w' => ∃ t : ReqV, e = .returned (.agg #[.int .i64 t.1, .int .i64 t.2.1, .int .i64 t.2.2.1, .int .i64 t.2.2.2.1, .int .i64 t.2.2.2.2]) ∧ (0 ≤ t.2.1 ∧ t.2.1 ≤ 100) ∧ Rd w' g (P + 40) ∧ Only w.heap.size (some g) w w' := by
  have hg := hr.lt
  have hgb : some g ≠ some w.heap.size := by intro h; injection h with h; omega
  have hb0 : Below w.heap.size w (w.alloc (.cells #[.int .i64 0, .int .i64 0, .int .i64 0, .int .i64 0, .int .i64 0] 37)) := (Below.refl _ _).alloc (Nat.le_refl _) _
  have hx0 := Box5.made w 0 0 0 0 0 37
  have hr0 := hr.keep hb0
  have ho0 : Only w.heap.size (some g) w (w.alloc (.cells #[.int .i64 0, .int .i64 0, .int .i64 0, .int .i64 0, .int .i64 0] 37)) := Only.of_below hb0
  go_enter Tryd.func37, Tryd.ntmps37
  go_wp2_with fail
  generalize w.alloc (.cells #[.int .i64 0, .int .i64 0, .int .i64 0, .int .i64 0, .int .i64 0] 37) = w0 at *
  refine (l20Req_c g P w0 hr0 hP).mono ?_
  rintro e w1 ⟨t, rfl, ht, hr1, h1⟩
  have hx1 := hx0.only h1 hgb
  have ho1 := ho0.trans (h1.mono hb0.size)
  clear h1
  have hA := (Below.refl w1.heap.size w1).alloc (Nat.le_refl _) (.cells #[.int .i64 t.1, .int .i64 t.2.1, .int .i64 t.2.2.1, .int .i64 t.2.2.2.1, .int .i64 t.2.2.2.2] 37)
  have hy2 := Box5.made w1 t.1 t.2.1 t.2.2.1 t.2.2.2.1 t.2.2.2.2 37
  have hx2 := hx1.below hA
  have hr2 := hr1.keep hA
  have ho2 := ho1.trans ((Only.of_below hA).mono ho1.size)
  have hgy : some g ≠ some w1.heap.size := by intro h; injection h with h; have := hr1.lt; omega
  have hgw : g + 1 ≤ w1.heap.size := hr1.lt
  have hww : w.heap.size ≤ w1.heap.size := ho1.size
  have hwn : w.heap.size ≠ w1.heap.size := by have := hx1.lt; omega
  clear hr0 hr1 hx0 hx1 ho0 ho1 hA hb0 hr
  go_wp2_with fail
  generalize w1.alloc (.cells #[.int .i64 t.1, .int .i64 t.2.1, .int .i64 t.2.2.1, .int .i64 t.2.2.2.1, .int .i64 t.2.2.2.2] 37) = w2 at *
  refine (pick_c g _ 12 w2 hr2 (by omega) (by omega)).mono ?_
  rintro e w3 ⟨k3, rfl, hk3, hr3, h3⟩
  have hx3 := hx2.only h3 hgb
  have hy3 := hy2.only h3 hgy
  have ho3 := ho2.trans (h3.mono ho2.size)
  clear hk3 h3 hr2 hx2 hy2 ho2
  by_cases c0 : k3 = 0
  · have d0 : ((k3 : Int) == 0) = true := by simp [c0]
    clear c0
    obtain ⟨y0, y1, y2, y3, y4, yf0, yf1, yf2, yf3, yf4⟩ := id hy3
    obtain ⟨x0, x1, x2, x3, x4, xf0, xf1, xf2, xf3, xf4⟩ := id hx3
    go_wp2
    refine bodyPost_ret (v := .agg #[.int .i64 (0), .int .i64 (0), .int .i64 (0), .int .i64 (0), .int .i64 (0)]) (by simp [results, Tryd.results37, go_sem, x0, x1, x2, x3, x4]) rfl ⟨(0, 0, 0, 0, 0), rfl, ?_⟩
    exact ⟨⟨by dsimp only; omega, by dsimp only; omega⟩, (fin5 (0, 0, 0, 0, 0) hg hr3 ho3).1.mono (by omega), (fin5 (0, 0, 0, 0, 0) hg hr3 ho3).2⟩
  · skip
    by_cases c1 : k3 = 1
    · have d0 : ((k3 : Int) == 0) = false := by simp; omega
      have d1 : ((k3 : Int) == 1) = true := by simp [c1]
      clear c1
      have hA4 := (Below.refl w3.heap.size w3).alloc (Nat.le_refl _) (.cells #[.int .i64 0, .int .i64 5, .int .i64 4] 3)
      have hs4 := sl_arr encI_len w3 #[.int .i64 0, .int .i64 5, .int .i64 4] 3 [0, 5, 4] rfl
      have hra4 := hr3.keep hA4
      have hxa4 := hx3.below hA4
      have hya4 := hy3.below hA4
      have hoa4 := ho3.trans ((Only.of_below hA4).mono ho3.size)
      go_wp2_with fail
      refine (one_c g _ _ _ _ 3 3 [0, 5, 4] _ hra4 (by omega) rfl (by omega) (by omega) hs4 hr3.lt (by simp)).mono ?_
      rintro e w4 ⟨k4, hk4, rfl, hr4, h4⟩
      have hx4 := hxa4.only h4 hgb
      have hy4 := hya4.only h4 hgy
      have ho4 := hoa4.trans (h4.mono hoa4.size)
      have hk4' : 0 ≤ k4 ∧ k4 ≤ 5 := by simp at hk4; omega
      clear hk4 h4 hs4 hA4 hra4 hxa4 hya4 hoa4
      have hr5 := hr4.below (w' := (w4.setCell ⟨w1.heap.size, 0, none⟩ (.int .i64 (k4)))) ((Below.refl (g + 1) w4).setCell hgw _) (by omega)
      have ho5 := ho4.trans (w' := (w4.setCell ⟨w1.heap.size, 0, none⟩ (.int .i64 (k4)))) (Only.of_below ((Below.refl w.heap.size w4).setCell hww _))
      have hy5 := hy4.set0 (v := k4)
      have hx5 := hx4.other (c := w1.heap.size) (i := 0) (v := k4) hwn
      obtain ⟨y0, y1, y2, y3, y4, yf0, yf1, yf2, yf3, yf4⟩ := id hy4
      obtain ⟨x0, x1, x2, x3, x4, xf0, xf1, xf2, xf3, xf4⟩ := id hx4
      go_wp2
      refine bodyPost_ret (v := .agg #[.int .i64 (k4), .int .i64 (t.2.1), .int .i64 (t.2.2.1), .int .i64 (t.2.2.2.1), .int .i64 (t.2.2.2.2)]) (by simp [results, Tryd.results37, go_sem, x0, x1, x2, x3, x4]) rfl ⟨(k4, t.2.1, t.2.2.1, t.2.2.2.1, t.2.2.2.2), rfl, ?_⟩
      exact ⟨⟨by dsimp only; omega, by dsimp only; omega⟩, (fin5 (k4, t.2.1, t.2.2.1, t.2.2.2.1, t.2.2.2.2) hg hr5 ho5).1.mono (by omega), (fin5 (k4, t.2.1, t.2.2.1, t.2.2.2.1, t.2.2.2.2) hg hr5 ho5).2⟩
    · skip
      by_cases c2 : k3 = 2
      · have d0 : ((k3 : Int) == 0) = false := by simp; omega
        have d1 : ((k3 : Int) == 1) = false := by simp; omega
        have d2 : ((k3 : Int) == 2) = true := by simp [c2]
        clear c2
        have hA4 := (Below.refl w3.heap.size w3).alloc (Nat.le_refl _) (.cells #[.int .i64 0, .int .i64 31, .int .i64 30] 3)
        have hs4 := sl_arr encI_len w3 #[.int .i64 0, .int .i64 31, .int .i64 30] 3 [0, 31, 30] rfl
        have hra4 := hr3.keep hA4
        have hxa4 := hx3.below hA4
        have hya4 := hy3.below hA4
        have hoa4 := ho3.trans ((Only.of_below hA4).mono ho3.size)
        go_wp2_with fail
        refine (one_c g _ _ _ _ 3 3 [0, 31, 30] _ hra4 (by omega) rfl (by omega) (by omega) hs4 hr3.lt (by simp)).mono ?_
        rintro e w4 ⟨k4, hk4, rfl, hr4, h4⟩
        have hx4 := hxa4.only h4 hgb
        have hy4 := hya4.only h4 hgy
        have ho4 := hoa4.trans (h4.mono hoa4.size)
        have hk4' : 0 ≤ k4 ∧ k4 ≤ 31 := by simp at hk4; omega
        clear hk4 h4 hs4 hA4 hra4 hxa4 hya4 hoa4
        have hr5 := hr4.below (w' := (w4.setCell ⟨w1.heap.size, 1, none⟩ (.int .i64 (k4)))) ((Below.refl (g + 1) w4).setCell hgw _) (by omega)
        have ho5 := ho4.trans (w' := (w4.setCell ⟨w1.heap.size, 1, none⟩ (.int .i64 (k4)))) (Only.of_below ((Below.refl w.heap.size w4).setCell hww _))
        have hy5 := hy4.set1 (v := k4)
        have hx5 := hx4.other (c := w1.heap.size) (i := 1) (v := k4) hwn
        obtain ⟨y0, y1, y2, y3, y4, yf0, yf1, yf2, yf3, yf4⟩ := id hy4
        obtain ⟨x0, x1, x2, x3, x4, xf0, xf1, xf2, xf3, xf4⟩ := id hx4
        go_wp2
        refine bodyPost_ret (v := .agg #[.int .i64 (t.1), .int .i64 (k4), .int .i64 (t.2.2.1), .int .i64 (t.2.2.2.1), .int .i64 (t.2.2.2.2)]) (by simp [results, Tryd.results37, go_sem, x0, x1, x2, x3, x4]) rfl ⟨(t.1, k4, t.2.2.1, t.2.2.2.1, t.2.2.2.2), rfl, ?_⟩
        exact ⟨⟨by dsimp only; omega, by dsimp only; omega⟩, (fin5 (t.1, k4, t.2.2.1, t.2.2.2.1, t.2.2.2.2) hg hr5 ho5).1.mono (by omega), (fin5 (t.1, k4, t.2.2.1, t.2.2.2.1, t.2.2.2.2) hg hr5 ho5).2⟩
      · skip
        by_cases c3 : k3 = 3
        · have d0 : ((k3 : Int) == 0) = false := by simp; omega
          have d1 : ((k3 : Int) == 1) = false := by simp; omega
          have d2 : ((k3 : Int) == 2) = false := by simp; omega
          have d3 : ((k3 : Int) == 3) = true := by simp [c3]
          clear c3
          have hA4 := (Below.refl w3.heap.size w3).alloc (Nat.le_refl _) (.cells #[.int .i64 0, .int .i64 6] 3)
          have hs4 := sl_arr encI_len w3 #[.int .i64 0, .int .i64 6] 3 [0, 6] rfl
          have hra4 := hr3.keep hA4
          have hxa4 := hx3.below hA4
          have hya4 := hy3.below hA4
          have hoa4 := ho3.trans ((Only.of_below hA4).mono ho3.size)
          go_wp2_with fail
          refine (one_c g _ _ _ _ 2 2 [0, 6] _ hra4 (by omega) rfl (by omega) (by omega) hs4 hr3.lt (by simp)).mono ?_
          rintro e w4 ⟨k4, hk4, rfl, hr4, h4⟩
          have hx4 := hxa4.only h4 hgb
          have hy4 := hya4.only h4 hgy
          have ho4 := hoa4.trans (h4.mono hoa4.size)
          have hk4' : 0 ≤ k4 ∧ k4 ≤ 6 := by simp at hk4; omega
          clear hk4 h4 hs4 hA4 hra4 hxa4 hya4 hoa4
          have hr5 := hr4.below (w' := (w4.setCell ⟨w1.heap.size, 2, none⟩ (.int .i64 (k4)))) ((Below.refl (g + 1) w4).setCell hgw _) (by omega)
          have ho5 := ho4.trans (w' := (w4.setCell ⟨w1.heap.size, 2, none⟩ (.int .i64 (k4)))) (Only.of_below ((Below.refl w.heap.size w4).setCell hww _))
          have hy5 := hy4.set2 (v := k4)
          have hx5 := hx4.other (c := w1.heap.size) (i := 2) (v := k4) hwn
          obtain ⟨y0, y1, y2, y3, y4, yf0, yf1, yf2, yf3, yf4⟩ := id hy4
          obtain ⟨x0, x1, x2, x3, x4, xf0, xf1, xf2, xf3, xf4⟩ := id hx4
          go_wp2
          refine bodyPost_ret (v := .agg #[.int .i64 (t.1), .int .i64 (t.2.1), .int .i64 (k4), .int .i64 (t.2.2.2.1), .int .i64 (t.2.2.2.2)]) (by simp [results, Tryd.results37, go_sem, x0, x1, x2, x3, x4]) rfl ⟨(t.1, t.2.1, k4, t.2.2.2.1, t.2.2.2.2), rfl, ?_⟩
          exact ⟨⟨by dsimp only; omega, by dsimp only; omega⟩, (fin5 (t.1, t.2.1, k4, t.2.2.2.1, t.2.2.2.2) hg hr5 ho5).1.mono (by omega), (fin5 (t.1, t.2.1, k4, t.2.2.2.1, t.2.2.2.2) hg hr5 ho5).2⟩
        · skip
          by_cases c4 : k3 = 4
          · have d0 : ((k3 : Int) == 0) = false := by simp; omega
            have d1 : ((k3 : Int) == 1) = false := by simp; omega
            have d2 : ((k3 : Int) == 2) = false := by simp; omega
            have d3 : ((k3 : Int) == 3) = false := by simp; omega
            have d4 : ((k3 : Int) == 4) = true := by simp [c4]
            clear c4
            have hA4 := (Below.refl w3.heap.size w3).alloc (Nat.le_refl _) (.cells #[.int .i64 (-2), .int .i64 2, .int .i64 5] 3)
            have hs4 := sl_arr encI_len w3 #[.int .i64 (-2), .int .i64 2, .int .i64 5] 3 [-2, 2, 5] rfl
            have hra4 := hr3.keep hA4
            have hxa4 := hx3.below hA4
            have hya4 := hy3.below hA4
            have hoa4 := ho3.trans ((Only.of_below hA4).mono ho3.size)
            go_wp2_with fail
            refine (one_c g _ _ _ _ 3 3 [-2, 2, 5] _ hra4 (by omega) rfl (by omega) (by omega) hs4 hr3.lt (by simp)).mono ?_
            rintro e w4 ⟨k4, hk4, rfl, hr4, h4⟩
            have hx4 := hxa4.only h4 hgb
            have hy4 := hya4.only h4 hgy
            have ho4 := hoa4.trans (h4.mono hoa4.size)
            have hk4' : -2 ≤ k4 ∧ k4 ≤ 5 := by simp at hk4; omega
            clear hk4 h4 hs4 hA4 hra4 hxa4 hya4 hoa4
            have hr5 := hr4.below (w' := (w4.setCell ⟨w1.heap.size, 3, none⟩ (.int .i64 (k4)))) ((Below.refl (g + 1) w4).setCell hgw _) (by omega)
            have ho5 := ho4.trans (w' := (w4.setCell ⟨w1.heap.size, 3, none⟩ (.int .i64 (k4)))) (Only.of_below ((Below.refl w.heap.size w4).setCell hww _))
            have hy5 := hy4.set3 (v := k4)
            have hx5 := hx4.other (c := w1.heap.size) (i := 3) (v := k4) hwn
            obtain ⟨y0, y1, y2, y3, y4, yf0, yf1, yf2, yf3, yf4⟩ := id hy4
            obtain ⟨x0, x1, x2, x3, x4, xf0, xf1, xf2, xf3, xf4⟩ := id hx4
            go_wp2
            refine bodyPost_ret (v := .agg #[.int .i64 (t.1), .int .i64 (t.2.1), .int .i64 (t.2.2.1), .int .i64 (k4), .int .i64 (t.2.2.2.2)]) (by simp [results, Tryd.results37, go_sem, x0, x1, x2, x3, x4]) rfl ⟨(t.1, t.2.1, t.2.2.1, k4, t.2.2.2.2), rfl, ?_⟩
            exact ⟨⟨by dsimp only; omega, by dsimp only; omega⟩, (fin5 (t.1, t.2.1, t.2.2.1, k4, t.2.2.2.2) hg hr5 ho5).1.mono (by omega), (fin5 (t.1, t.2.1, t.2.2.1, k4, t.2.2.2.2) hg hr5 ho5).2⟩
          · skip
            have d0 : ((k3 : Int) == 0) = false := by simp; omega
            have d1 : ((k3 : Int) == 1) = false := by simp; omega
            have d2 : ((k3 : Int) == 2) = false := by simp; omega
            have d3 : ((k3 : Int) == 3) = false := by simp; omega
            have d4 : ((k3 : Int) == 4) = false := by simp; omega
            obtain ⟨y0, y1, y2, y3, y4, yf0, yf1, yf2, yf3, yf4⟩ := id hy3
            obtain ⟨x0, x1, x2, x3, x4, xf0, xf1, xf2, xf3, xf4⟩ := id hx3
            go_wp2
            refine bodyPost_ret (v := .agg #[.int .i64 (t.1), .int .i64 (t.2.1), .int .i64 (t.2.2.1), .int .i64 (t.2.2.2.1), .int .i64 (t.2.2.2.2)]) (by simp [results, Tryd.results37, go_sem, x0, x1, x2, x3, x4]) rfl ⟨(t.1, t.2.1, t.2.2.1, t.2.2.2.1, t.2.2.2.2), rfl, ?_⟩
            exact ⟨⟨by dsimp only; omega, by dsimp only; omega⟩, (fin5 (t.1, t.2.1, t.2.2.1, t.2.2.2.1, t.2.2.2.2) hg hr3 ho3).1.mono (by omega), (fin5 (t.1, t.2.1, t.2.2.1, t.2.2.2.1, t.2.2.2.2) hg hr3 ho3).2⟩
end Go.Proofs.YtajmfonepnkofaaDoor
namespace Go.Proofs.YtajmfonepnkofaaDoor
open Go.RowKit Rg
set_option linter.unusedVariables false
set_option linter.unusedSimpArgs false

theorem infoI : (Tryd.prog.info? 3).map (fun i => (i.zero, i.size, i.bytes)) = some (some (.int .i64 0), 1, 8) := by kernel_rfl
theorem Own.i64At {w : World} {lo g n c k : Nat} {e : TypeId} {xs : List Int} (h : Own encI 1 e w lo (.slice (some ⟨g, 0, none⟩) n c) xs) (hk : k < n) : ∃ a : Int, w.cell? ⟨g, k, none⟩ = some (.int .i64 a) := by
  obtain ⟨h1, _, h2⟩ := h.slAt encI_len
  have hk' : k < xs.length := by omega
  have := h2.i64 hk'
  simp only [Nat.zero_add] at this
  exact ⟨_, this⟩
def imarks (k n : Nat) : List Int := (List.range n).map fun (i : Nat) => (((k + i : Nat) : Int))
theorem imarks_len (k n : Nat) : (imarks k n).length = n := by simp [imarks]
theorem imarks_succ (k n : Nat) : imarks k (n + 1) = imarks k n ++ [((k + n : Nat) : Int)] := by simp [imarks, List.range_succ]
theorem imarks_set (k j : Nat) (xs : List Int) (h : j < xs.length) : (imarks k j ++ xs.drop j).set j ((k + j : Nat) : Int) = imarks k (j + 1) ++ xs.drop (j + 1) := by
  rw [List.set_append_right _ _ (by rw [imarks_len]; omega), imarks_len, Nat.sub_self, imarks_succ, List.append_assoc]
  congr 1
  rw [List.drop_eq_getElem_cons h]
  rfl
theorem toIntS_c (A : Option Addr) (n c lo hi : Nat) (xs : List Int) (w : World) (hn : n = xs.length) (hb : n ≤ 1048576) (hs : Sl encI 1 w lo hi A xs) (hhi : hi ≤ w.heap.size) :
    Calls Tryd.prog 28 #[.slice A n c] w fun e w' => ∃ v, e = .returned v ∧ Own encI 1 3 w' w.heap.size v xs ∧ Below w.heap.size w w' := by
  have hmk := fun W => run_make_n (P := Tryd.prog) 23 3 (info_parts infoI).choose _ Tryd.underlying23 (info_parts infoI).choose_spec.1 (info_parts infoI).choose_spec.2.1 .i64 .i64 n (by rw [(info_parts infoI).choose_spec.2.2.2]; omega) (by omega) W
  rw [(info_parts infoI).choose_spec.2.2.1] at hmk
  have hown : Own encI 1 3 (w.alloc (.cells (madeCells (Value.int .i64 0).cells (n * 1)) 3)) w.heap.size (.slice (some ⟨w.heap.size, 0, none⟩) n n) (List.replicate n 0) :=
    own_made encI_len (by omega) _ w _ n 0 (.int .i64 0) rfl (Nat.le_refl _) (by unfold maxLen; omega)
  rw [Nat.mul_one] at hown
  have hn' := hide hn
  clear hn
  go_enter Tryd.func28, Tryd.ntmps28
  go_wp2
  go_loopw [4] (fun i wr => ∃ k : Nat, k ≤ n ∧ i = .int .i64 k ∧ Own encI 1 3 wr w.heap.size (.slice (some ⟨w.heap.size, 0, none⟩) n n) (xs.take k ++ List.replicate (n - k) 0) ∧ Below w.heap.size w wr) (fun i _ => n - (intOf i).toNat)
  case atStart => exact ⟨0, Nat.zero_le _, rfl, by rw [List.take_zero, List.nil_append, Nat.sub_zero]; exact hown, (Below.refl _ _).alloc (Nat.le_refl _) _⟩
  case round =>
    obtain ⟨k, hk, rfl, ho, hbr⟩ := hrel
    by_cases hlt : k < n
    · have hlx : k < xs.length := by have := hn'.out; omega
      obtain ⟨b, off, rfl, hlo, hbh⟩ := hs.addr hlx
      have a1 := (hs.below hbr hhi).i64 hlx
      obtain ⟨u0, c0⟩ := ho.i64At hlt
      have f0 := ho.frozen k
      go_wp2
      go_roundw
      case rel =>
        refine ⟨k + 1, by omega, by go_num, ?_, ?_⟩
        · have := ho.put_ encI_len hlt xs[k]
          rw [take_set_replicate xs _ k n hn'.out hlt, Nat.mul_one] at this
          exact this
        · exact hbr.setCell (by simp) _
      case measure => simp [intOf]; omega
    · obtain rfl : k = n := by omega
      go_wp2
      go_ret
      refine ⟨_, rfl, ?_, hbr⟩
      rw [Nat.sub_self, List.replicate_zero, List.append_nil, List.take_of_length_le (by rw [hn'.out]; omega)] at ho
      exact ho

theorem eqIntS_c (A B : Option Addr) (n m c d lo hi lo' hi' : Nat) (xs ys : List Int) (w : World) (hn : n = xs.length) (hm : m = ys.length) (hb : n ≤ 1048576) (hb' : m ≤ 1048576) (hs : Sl encI 1 w lo hi A xs) (hs' : Sl encI 1 w lo' hi' B ys) (hhi : hi ≤ w.heap.size) (hhi' : hi' ≤ w.heap.size) :
    Calls Tryd.prog 33 #[.slice A n c, .slice B m d] w fun e w' => e = .returned (.bool (decide (xs = ys))) ∧ Below w.heap.size w w' := by
  have hn' := hide hn
  have hm' := hide hm
  by_cases hnm : n = m
  · have hxy : xs.length = ys.length := by omega
    have hxy' := hide hxy
    clear hn hm hxy
    subst hnm
    go_enter Tryd.func33, Tryd.ntmps33
    go_wp2
    go_loopw [5] (fun i wr => ∃ k : Nat, k ≤ n ∧ i = .int .i64 k ∧ Hid (xs.take k = ys.take k) ∧ Below w.heap.size w wr) (fun i _ => n - (intOf i).toNat)
    case atStart => exact ⟨0, Nat.zero_le _, rfl, rfl, Below.refl _ _⟩
    case round =>
      obtain ⟨k, hk, rfl, he, hbr⟩ := hrel
      by_cases hlt : k < n
      · have hlx : k < xs.length := by have := hn'.out; omega
        have hly : k < ys.length := by have := hm'.out; omega
        obtain ⟨b, off, rfl, hlo, hbh⟩ := hs.addr hlx
        obtain ⟨b', off', rfl, hlo', hbh'⟩ := hs'.addr hly
        have a1 := (hs.below hbr hhi).i64 hlx
        have b1 := (hs'.below hbr hhi').i64 hly
        by_cases hq : xs[k] = ys[k]
        · have hq' := hide hq
          have hbeq : (xs[k] != ys[k]) = false := by simp [hq]
          clear hq
          go_wp2
          refine wp_region_T (fun _ => True) [] [] [] [0, 1, 2, 3, 4, 5, 6, 7, 8] (by kernel_rfl) (by kernel_rfl) (by kernel_rfl) trivial ?_; simp only [pickL, List.getElem?_cons_succ, List.getElem?_cons_zero]
          go_wp2_with (first
            | ((with_reducible refine wpT_q0 ?_ ?_ ?_ ?_); (focus rfl); (focus rfl); (focus rfl); intro K hK) | ((with_reducible refine wpT_x0 ?_ ?_ ?_); (focus rfl); (focus rfl); intro K hK) | ((with_reducible refine wpT_noL ?_ ?_); (focus (first | exact wanted_no _ _ _ rfl rfl rfl | exact wanted_un _ _ _ rfl rfl rfl)); simp only [setO, List.set_cons_succ, List.set_cons_zero]) | ((with_reducible refine wpT_q1 ?_ ?_ ?_ ?_); (focus exact wanted_yes _ _ _ rfl rfl rfl); (focus rfl); (focus rfl); intro K hK) | ((with_reducible refine wpT_x1 ?_ ?_ ?_); (focus exact wanted_yes _ _ _ rfl rfl rfl); (focus rfl); intro K hK) | ((with_reducible refine wpT_nil ?_); try dsimp only)
            | fail)
          go_roundw
          case rel => exact ⟨k + 1, by omega, by go_num, hide (take_eq_succ xs ys k hlx hly he.out hq'.out), hbr.trans (Below.drew (Below.refl _ _))⟩
          case measure => simp [intOf]; omega
        · have hq' := hide hq
          have hbne : (xs[k] != ys[k]) = true := by simp [hq]
          clear hq
          go_wp2
          refine wp_region_T (fun _ => True) [] [] [] [0, 1, 2, 3, 4, 5, 6, 7, 8] (by kernel_rfl) (by kernel_rfl) (by kernel_rfl) trivial ?_; simp only [pickL, List.getElem?_cons_succ, List.getElem?_cons_zero]
          go_wp2_with (first
            | ((with_reducible refine wpT_q0 ?_ ?_ ?_ ?_); (focus rfl); (focus rfl); (focus rfl); intro K hK) | ((with_reducible refine wpT_x0 ?_ ?_ ?_); (focus rfl); (focus rfl); intro K hK) | ((with_reducible refine wpT_noL ?_ ?_); (focus (first | exact wanted_no _ _ _ rfl rfl rfl | exact wanted_un _ _ _ rfl rfl rfl)); simp only [setO, List.set_cons_succ, List.set_cons_zero]) | ((with_reducible refine wpT_q1 ?_ ?_ ?_ ?_); (focus exact wanted_yes _ _ _ rfl rfl rfl); (focus rfl); (focus rfl); intro K hK) | ((with_reducible refine wpT_x1 ?_ ?_ ?_); (focus exact wanted_yes _ _ _ rfl rfl rfl); (focus rfl); intro K hK) | ((with_reducible refine wpT_nil ?_); try dsimp only)
            | fail)
          go_ret
          refine ⟨congrArg (fun b => Ending.returned (.bool b)) ?_, hbr.trans (Below.drew (Below.refl _ _))⟩
          have : ¬ xs = ys := fun h => by subst h; exact hq'.out rfl
          simp [this]
      · obtain rfl : k = n := by omega
        go_wp2
        go_ret
        have e1 := he.out
        rw [List.take_of_length_le (by rw [hn'.out]; omega), List.take_of_length_le (by rw [hm'.out]; omega)] at e1
        exact ⟨by simp [e1], hbr⟩
  · have hne : ¬ xs = ys := fun h => by subst h; omega
    have hne' : ((n : Int) != (m : Int)) = true := by simp; omega
    clear hn hm
    go_enter Tryd.func33, Tryd.ntmps33
    go_wp2
    go_ret
    exact ⟨by simp [hne], Below.refl _ _⟩
theorem eqSameI_c {A B : Option Addr} {n m c d lo lo' : Nat} {xs : List Int} {w : World} (h : Own encI 1 3 w lo (.slice A n c) xs) (h' : Own encI 1 3 w lo' (.slice B m d) xs) (hb : xs.length ≤ 1048576) :
    Calls Tryd.prog 33 #[.slice A n c, .slice B m d] w fun e w' => e = .returned (.bool true) ∧ Below w.heap.size w w' := by
  obtain ⟨h1, _, h2⟩ := h.slAt encI_len
  obtain ⟨h3, _, h4⟩ := h'.slAt encI_len
  have := eqIntS_c A B n m c d _ _ _ _ xs xs w h1 h3 (by omega) (by omega) h2 h4 (Nat.le_refl _) (Nat.le_refl _)
  simpa using this
theorem clone1I_c (A : Option Addr) (n c lo hi : Nat) (xs : List Int) (w : World) (hn : n = xs.length) (hb : n ≤ 1048576) (hs : Sl encI 1 w lo hi A xs) (hhi : hi ≤ w.heap.size) :
    Calls Tryd.prog 88 #[.slice A n c] w fun e w' => ∃ v, e = .returned v ∧ Own encI 1 3 w' w.heap.size v xs ∧ Below w.heap.size w w' := by
  have hn' := hide hn
  clear hn
  cases A with
  | none =>
    have hx : xs = [] := by
      by_cases h : xs = []
      · exact h
      · obtain ⟨_, _, h1, _⟩ := hs h; cases h1
    subst hx
    obtain rfl : n = 0 := hn'.out
    have he := fun (w : World) (c : Nat) => Lib.run_eql_slice_nil (P := Tryd.prog) w 23 3 none 0 c 0 0 Tryd.underlying23
    go_enter Tryd.func88, Tryd.ntmps88
    go_wp2
    go_ret
    exact ⟨_, rfl, Own.nil_ _ _ _ _ _, Below.refl _ _⟩
  | some ad =>
    have he := fun (w : World) (c : Nat) => Lib.run_eql_slice_nil (P := Tryd.prog) w 23 3 (some ad) n c 0 0 Tryd.underlying23
    go_enter Tryd.func88, Tryd.ntmps88
    go_wp2_with (at_builtin; refine wpList_app encI_len (by omega) encI_one rfl _ _ 23 rfl 3 _ 8 Tryd.underlying23 infoI rfl w.heap.size _ [] rfl (own_empty encI 1 _ w) lo hi _ xs _ _ rfl hn'.out ?h1 ?h2 ?h3 ?_)
    case h1 => exact hs.below ((Below.refl hi w).alloc hhi _) (Nat.le_refl _)
    case h2 => have := hn'.out; simp [maxLen]; omega
    case h3 => simp
    intro v' w1 ho hg hb1
    go_wp2
    go_ret
    exact ⟨_, rfl, ho, (Below.refl _ _).trans (((Below.refl _ _).alloc (Nat.le_refl _) _).trans hb1)⟩

theorem clipI_c (A : Option Addr) (n c : Nat) (w : World) (h0 : n ≤ c) (h1 : c ≤ maxLen) (hA : A = none → n = 0) (hA2 : ∀ a, A = some a → ∃ g, a = ⟨g, 0, none⟩) :
    Calls Tryd.prog 87 #[.slice A n c] w fun e w' => e = .returned (.slice A n n) ∧ w = w' := by
  unfold maxLen at h1
  cases A with
  | none =>
    obtain rfl := hA rfl
    go_enter Tryd.func87, Tryd.ntmps87
    go_wp2
    go_ret
    exact ⟨rfl, rfl⟩
  | some a =>
    obtain ⟨g, rfl⟩ := hA2 a rfl
    clear hA hA2
    go_enter Tryd.func87, Tryd.ntmps87
    go_wp2
    go_ret
    exact ⟨rfl, rfl⟩

theorem cloneI_c (A : Option Addr) (n c lo hi : Nat) (xs : List Int) (w : World) (hn : n = xs.length) (hb : n ≤ 1048576) (hs : Sl encI 1 w lo hi A xs) (hhi : hi ≤ w.heap.size) :
    Calls Tryd.prog 69 #[.slice A n c] w fun e w' => ∃ A', e = .returned (.slice A' n n) ∧ Own encI 1 3 w' w.heap.size (.slice A' n n) xs ∧ Below w.heap.size w w' := by
  have hn' := hide hn
  clear hn
  go_enter Tryd.func69, Tryd.ntmps69
  go_wp2_with fail
  refine (clone1I_c A n c lo hi xs w hn'.out hb hs hhi).mono ?_
  rintro e w1 ⟨v, rfl, ho, hb1⟩
  obtain ⟨A', c', rfl, h1, h2, h3⟩ := ho.form
  have hz := ho.clip
  rw [← hn'.out] at h1 hz ho ⊢
  have hcl := clipI_c A' n c' w1 h1 h2 (by
    rintro rfl
    rcases ho with ⟨h4, h5⟩ | ⟨g, cap, cur, he, _⟩
    · injection h4
    · injection he with he; cases he) (by
    intro a ha
    rcases h3 with h3 | ⟨g, h3, _⟩
    · rw [h3] at ha; cases ha
    · rw [h3] at ha; injection ha with ha; exact ⟨g, ha.symm⟩)
  clear h3 h1 h2
  go_wp2_with fail
  refine hcl.mono ?_
  rintro e w2 ⟨rfl, rfl⟩
  go_wp2
  go_ret
  exact ⟨A', rfl, hz, hb1⟩
end Go.Proofs.YtajmfonepnkofaaDoor
namespace Go.Proofs.YtajmfonepnkofaaDoor
open Go.RowKit Rg
set_option linter.unusedVariables false
set_option linter.unusedSimpArgs false

/-- What an element's cells hold (all they point to lies in blocks from lo on, below hi). -/
abbrev ElR (α : Type) := World → Nat → Nat → List Value → α → Prop
structure Kept {α : Type} (R : ElR α) : Prop where
  keep : ∀ {w w' : World} {lo hi : Nat} {cs : List Value} {t : α}, R w lo hi cs t → (∀ b, lo ≤ b → b < hi → w'.heap[b]? = w.heap[b]?) → R w' lo hi cs t
  mono : ∀ {w : World} {lo hi lo' hi' : Nat} {cs : List Value} {t : α}, R w lo hi cs t → lo' ≤ lo → hi ≤ hi' → R w lo' hi' cs t

/-- A slice that reads as a list. -/
structure RdN {α : Type} (sz : Nat) (R : ElR α) (w : World) (lo hi : Nat) (A : Option Addr) (n c : Nat) (ts : List α) : Prop where
  len : n = ts.length
  cap : n ≤ c
  max : c ≤ maxLen
  row : ts ≠ [] → ∃ b off, A = some ⟨b, off, none⟩ ∧ lo ≤ b ∧ b < hi ∧ ∀ (i : Nat) (h : i < ts.length), ∃ cs : List Value, cs.length = sz ∧ (∀ (j : Nat) (u : Value), cs[j]? = some u → w.cell? ⟨b, off + i * sz + j, none⟩ = some u) ∧ R w lo hi cs ts[i]

section
variable {α : Type} {sz : Nat} {R : ElR α} {w w' : World} {lo hi : Nat} {A : Option Addr} {n c : Nat} {ts : List α}

theorem RdN.keep (K : Kept R) (h : RdN sz R w lo hi A n c ts) (hk : ∀ b, lo ≤ b → b < hi → w'.heap[b]? = w.heap[b]?) : RdN sz R w' lo hi A n c ts :=
  ⟨h.len, h.cap, h.max, fun hne => by
    obtain ⟨b, off, e, h1, h2, h3⟩ := h.row hne
    refine ⟨b, off, e, h1, h2, fun i hi => ?_⟩
    obtain ⟨cs, h4, h5, h6⟩ := h3 i hi
    exact ⟨cs, h4, fun j u hu => (World.cell?_of_block (hk b h1 h2)).trans (h5 j u hu), K.keep h6 hk⟩⟩
theorem RdN.below (K : Kept R) {B : Nat} (h : RdN sz R w lo hi A n c ts) (hb : Below B w w') (hB : hi ≤ B) : RdN sz R w' lo hi A n c ts :=
  h.keep K fun b _ h2 => hb.block b (by omega)
theorem RdN.mono (K : Kept R) {lo' hi' : Nat} (h : RdN sz R w lo hi A n c ts) (hl : lo' ≤ lo) (hh : hi ≤ hi') : RdN sz R w lo' hi' A n c ts :=
  ⟨h.len, h.cap, h.max, fun hne => by
    obtain ⟨b, off, e, h1, h2, h3⟩ := h.row hne
    refine ⟨b, off, e, by omega, by omega, fun i hi => ?_⟩
    obtain ⟨cs, h4, h5, h6⟩ := h3 i hi
    exact ⟨cs, h4, h5, K.mono h6 hl hh⟩⟩
theorem RdN.nil_ (sz : Nat) (R : ElR α) (w : World) (lo hi : Nat) (A : Option Addr) (c : Nat) (hc : c ≤ maxLen) : RdN sz R w lo hi A 0 c [] := ⟨rfl, Nat.zero_le _, hc, fun h => absurd rfl h⟩
theorem RdN.addr (h : RdN sz R w lo hi A n c ts) {k : Nat} (hk : k < ts.length) : ∃ b off, A = some ⟨b, off, none⟩ ∧ lo ≤ b ∧ b < hi := by
  obtain ⟨b, off, e, h1, h2, _⟩ := h.row (by rintro rfl; simp at hk)
  exact ⟨b, off, e, h1, h2⟩
theorem RdN.at_ {b off : Nat} (h : RdN sz R w lo hi (some ⟨b, off, none⟩) n c ts) {k : Nat} (hk : k < ts.length) : ∃ cs : List Value, cs.length = sz ∧ (∀ (j : Nat) (u : Value), cs[j]? = some u → w.cell? ⟨b, off + k * sz + j, none⟩ = some u) ∧ R w lo hi cs ts[k] := by
  obtain ⟨b', off', e, h1, h2, h3⟩ := h.row (by rintro rfl; simp at hk)
  injection e with e
  injection e with e1 e2
  subst e1; subst e2
  exact h3 k hk
theorem RdN.lt {b off : Nat} (h : RdN sz R w lo hi (some ⟨b, off, none⟩) n c ts) {k : Nat} (hk : k < ts.length) : lo ≤ b ∧ b < hi := by
  obtain ⟨b', off', e, h1, h2⟩ := h.addr hk
  injection e with e
  injection e with e1 e2
  subst e1; subst e2
  exact ⟨h1, h2⟩
/-- 's[:k]' -/
theorem RdN.take_ (h : RdN sz R w lo hi A n c ts) (k : Nat) (hk : k ≤ n) : RdN sz R w lo hi A k c (ts.take k) :=
  ⟨by have := h.len; simp; omega, Nat.le_trans hk h.cap, h.max, fun hne => by
    obtain ⟨b, off, e, h1, h2, h3⟩ := h.row (by rintro rfl; simp at hne)
    refine ⟨b, off, e, h1, h2, fun i hi => ?_⟩
    have hi' : i < ts.length := by simp at hi; omega
    obtain ⟨cs, h4, h5, h6⟩ := h3 i hi'
    exact ⟨cs, h4, h5, by rw [List.getElem_take]; exact h6⟩⟩
/-- 's[k:]' -/
theorem RdN.drop_ {b off : Nat} (h : RdN sz R w lo hi (some ⟨b, off, none⟩) n c ts) (k : Nat) (hk : k ≤ n) : RdN sz R w lo hi (some ⟨b, off + k * sz, none⟩) (n - k) (c - k) (ts.drop k) :=
  ⟨by have := h.len; simp; omega, by have := h.cap; omega, by have := h.max; omega, fun hne => by
    obtain ⟨b', off', e, h1, h2, h3⟩ := h.row (by rintro rfl; simp at hne)
    injection e with e
    injection e with e1 e2
    subst e1; subst e2
    refine ⟨b, _, rfl, h1, h2, fun i hi => ?_⟩
    have hi' : k + i < ts.length := by simp at hi; omega
    obtain ⟨cs, h4, h5, h6⟩ := h3 (k + i) hi'
    refine ⟨cs, h4, fun j u hu => ?_, by rw [List.getElem_drop]; exact h6⟩
    have := h5 j u hu
    rw [Nat.add_mul, ← Nat.add_assoc] at this
    exact this⟩
end

/-- Elements of plain cells. -/
def flatR {α : Type} (enc : α → List Value) : ElR α := fun _ _ _ cs t => cs = enc t
theorem flat_kept {α : Type} (enc : α → List Value) : Kept (flatR enc) := ⟨fun h _ => h, fun h _ _ => h⟩
section
variable {α : Type} {enc : α → List Value} {sz : Nat} {w : World} {lo hi : Nat} {A : Option Addr} {n c : Nat} {xs : List α}
theorem Sl.rdn (hl : ∀ x, (enc x).length = sz) (hs : Sl enc sz w lo hi A xs) (hn : n = xs.length) (hc : n ≤ c) (hm : c ≤ maxLen) : RdN sz (flatR enc) w lo hi A n c xs :=
  ⟨hn, hc, hm, fun hne => by
    obtain ⟨b, off, e, h1, h2, h3⟩ := hs hne
    exact ⟨b, off, e, h1, h2, fun i hi => ⟨enc xs[i], hl _, fun j u hu => h3 i xs[i] (List.getElem?_eq_getElem hi) j u hu, rfl⟩⟩⟩
theorem RdN.sl (h : RdN sz (flatR enc) w lo hi A n c xs) : Sl enc sz w lo hi A xs := fun hne => by
  obtain ⟨b, off, e, h1, h2, h3⟩ := h.row hne
  refine ⟨b, off, e, h1, h2, fun i x hx j u hu => ?_⟩
  have hi : i < xs.length := (List.getElem?_eq_some_iff.1 hx).1
  obtain ⟨cs, h4, h5, h6⟩ := h3 i hi
  have : xs[i] = x := by rw [List.getElem?_eq_getElem hi] at hx; injection hx
  rw [this] at h6
  have h7 : cs = enc x := h6
  rw [← h7] at hu
  exact h5 j u hu
theorem Own.rdn {e : TypeId} (hl : ∀ x, (enc x).length = sz) (h : Own enc sz e w lo (.slice A n c) xs) : RdN sz (flatR enc) w lo w.heap.size A n c xs := by
  obtain ⟨h1, h2, h3⟩ := h.slAt hl
  exact h3.rdn hl h1 h2 h.cap.2
end

/-! Asks, claims, votes, letters, keepers, worlds. -/
abbrev ClaimT := Int × Int × ReqV
def encClaim (t : ClaimT) : List Value := [.int .i64 t.1, .int .i64 t.2.1, .int .i64 t.2.2.1, .int .i64 t.2.2.2.1, .int .i64 t.2.2.2.2.1, .int .i64 t.2.2.2.2.2.1, .int .i64 t.2.2.2.2.2.2]
theorem encClaim_len (t : ClaimT) : (encClaim t).length = 7 := rfl
theorem encClaim_one (t : ClaimT) : ∀ u ∈ encClaim t, u.oneCell' = true := by
  intro u hu; simp [encClaim] at hu; rcases hu with rfl | rfl | rfl | rfl | rfl | rfl | rfl <;> rfl
abbrev clR : ElR ClaimT := flatR encClaim
abbrev VoteT := Int × List ClaimT
def voteR : ElR VoteT := fun w lo hi cs t => ∃ A n c, cs = [.int .i64 t.1, .slice A n c] ∧ RdN 7 clR w lo hi A n c t.2
theorem vote_kept : Kept voteR := ⟨fun ⟨A, n, c, h1, h2⟩ hk => ⟨A, n, c, h1, h2.keep (flat_kept _) hk⟩, fun ⟨A, n, c, h1, h2⟩ hl hh => ⟨A, n, c, h1, h2.mono (flat_kept _) hl hh⟩⟩
abbrev MsgT := Int × Int × Int × Int × ReqV × List ClaimT × List VoteT
def msgR : ElR MsgT := fun w lo hi cs m => ∃ A n c B p d, cs = [.int .i64 m.1, .int .i64 m.2.1, .int .i64 m.2.2.1, .int .i64 m.2.2.2.1, .int .i64 m.2.2.2.2.1.1, .int .i64 m.2.2.2.2.1.2.1, .int .i64 m.2.2.2.2.1.2.2.1, .int .i64 m.2.2.2.2.1.2.2.2.1, .int .i64 m.2.2.2.2.1.2.2.2.2, .slice A n c, .slice B p d] ∧
  RdN 7 clR w lo hi A n c m.2.2.2.2.2.1 ∧ RdN 2 voteR w lo hi B p d m.2.2.2.2.2.2
theorem msg_kept : Kept msgR := ⟨fun ⟨A, n, c, B, p, d, h1, h2, h3⟩ hk => ⟨A, n, c, B, p, d, h1, h2.keep (flat_kept _) hk, h3.keep vote_kept hk⟩, fun ⟨A, n, c, B, p, d, h1, h2, h3⟩ hl hh => ⟨A, n, c, B, p, d, h1, h2.mono (flat_kept _) hl hh, h3.mono vote_kept hl hh⟩⟩
abbrev RepT := Int × Int × Bool × Int × List ClaimT × List MsgT × List ClaimT
def repR : ElR RepT := fun w lo hi cs r => ∃ A n c B p d E q f, cs = [.int .i64 r.1, .int .i64 r.2.1, .bool r.2.2.1, .int .i64 r.2.2.2.1, .slice A n c, .slice B p d, .slice E q f] ∧
  RdN 7 clR w lo hi A n c r.2.2.2.2.1 ∧ RdN 11 msgR w lo hi B p d r.2.2.2.2.2.1 ∧ RdN 7 clR w lo hi E q f r.2.2.2.2.2.2
theorem rep_kept : Kept repR := ⟨fun ⟨A, n, c, B, p, d, E, q, f, h1, h2, h3, h4⟩ hk => ⟨A, n, c, B, p, d, E, q, f, h1, h2.keep (flat_kept _) hk, h3.keep msg_kept hk, h4.keep (flat_kept _) hk⟩,
  fun ⟨A, n, c, B, p, d, E, q, f, h1, h2, h3, h4⟩ hl hh => ⟨A, n, c, B, p, d, E, q, f, h1, h2.mono (flat_kept _) hl hh, h3.mono msg_kept hl hh, h4.mono (flat_kept _) hl hh⟩⟩

abbrev WorldT := Int × List RepT × List MsgT
def worldR : ElR WorldT := fun w lo hi cs t => ∃ A n c B p d, cs = [.int .i64 t.1, .slice A n c, .slice B p d] ∧ RdN 7 repR w lo hi A n c t.2.1 ∧ RdN 11 msgR w lo hi B p d t.2.2
instance : DecidableEq ReqV := fun a b => inferInstance
instance : DecidableEq ClaimT := fun a b => inferInstance
instance : DecidableEq VoteT := fun a b => inferInstance
instance : DecidableEq MsgT := fun a b => @instDecidableEqProd _ _ _ (@instDecidableEqProd _ _ _ (@instDecidableEqProd _ _ _ (@instDecidableEqProd _ _ _ (@instDecidableEqProd _ _ _ (@instDecidableEqProd _ _ _ _))))) a b
instance : DecidableEq RepT := fun a b => @instDecidableEqProd _ _ _ (@instDecidableEqProd _ _ _ (@instDecidableEqProd _ _ _ (@instDecidableEqProd _ _ _ (@instDecidableEqProd _ _ _ (@instDecidableEqProd _ _ _ _))))) a b

section
variable {w : World} {lo hi b off n c k : Nat}
theorem RdN.claim {ts : List ClaimT} (h : RdN 7 clR w lo hi (some ⟨b, off, none⟩) n c ts) (hk : k < ts.length) :
    w.cell? ⟨b, off + k * 7, none⟩ = some (.int .i64 ts[k].1) ∧ w.cell? ⟨b, off + k * 7 + 1, none⟩ = some (.int .i64 ts[k].2.1) ∧ w.cell? ⟨b, off + k * 7 + 2, none⟩ = some (.int .i64 ts[k].2.2.1) ∧ w.cell? ⟨b, off + k * 7 + 3, none⟩ = some (.int .i64 ts[k].2.2.2.1) ∧ w.cell? ⟨b, off + k * 7 + 4, none⟩ = some (.int .i64 ts[k].2.2.2.2.1) ∧ w.cell? ⟨b, off + k * 7 + 5, none⟩ = some (.int .i64 ts[k].2.2.2.2.2.1) ∧ w.cell? ⟨b, off + k * 7 + 6, none⟩ = some (.int .i64 ts[k].2.2.2.2.2.2) := by
  obtain ⟨cs, _, h5, h6⟩ := h.at_ hk
  have h7 : cs = encClaim ts[k] := h6
  subst h7
  exact ⟨h5 0 _ rfl, h5 1 _ rfl, h5 2 _ rfl, h5 3 _ rfl, h5 4 _ rfl, h5 5 _ rfl, h5 6 _ rfl⟩
theorem RdN.vote {ts : List VoteT} (h : RdN 2 voteR w lo hi (some ⟨b, off, none⟩) n c ts) (hk : k < ts.length) :
    ∃ A n' c', w.cell? ⟨b, off + k * 2, none⟩ = some (.int .i64 ts[k].1) ∧ w.cell? ⟨b, off + k * 2 + 1, none⟩ = some (.slice A n' c') ∧ RdN 7 clR w lo hi A n' c' ts[k].2 := by
  obtain ⟨cs, _, h5, A, n', c', rfl, h6⟩ := h.at_ hk
  exact ⟨A, n', c', h5 0 _ rfl, h5 1 _ rfl, h6⟩
theorem RdN.msg {ts : List MsgT} (h : RdN 11 msgR w lo hi (some ⟨b, off, none⟩) n c ts) (hk : k < ts.length) :
    ∃ A n' c' B p d, w.cell? ⟨b, off + k * 11, none⟩ = some (.int .i64 ts[k].1) ∧ w.cell? ⟨b, off + k * 11 + 1, none⟩ = some (.int .i64 ts[k].2.1) ∧ w.cell? ⟨b, off + k * 11 + 2, none⟩ = some (.int .i64 ts[k].2.2.1) ∧ w.cell? ⟨b, off + k * 11 + 3, none⟩ = some (.int .i64 ts[k].2.2.2.1) ∧
      w.cell? ⟨b, off + k * 11 + 4, none⟩ = some (.int .i64 ts[k].2.2.2.2.1.1) ∧ w.cell? ⟨b, off + k * 11 + 5, none⟩ = some (.int .i64 ts[k].2.2.2.2.1.2.1) ∧ w.cell? ⟨b, off + k * 11 + 6, none⟩ = some (.int .i64 ts[k].2.2.2.2.1.2.2.1) ∧ w.cell? ⟨b, off + k * 11 + 7, none⟩ = some (.int .i64 ts[k].2.2.2.2.1.2.2.2.1) ∧ w.cell? ⟨b, off + k * 11 + 8, none⟩ = some (.int .i64 ts[k].2.2.2.2.1.2.2.2.2) ∧
      w.cell? ⟨b, off + k * 11 + 9, none⟩ = some (.slice A n' c') ∧ w.cell? ⟨b, off + k * 11 + 10, none⟩ = some (.slice B p d) ∧ RdN 7 clR w lo hi A n' c' ts[k].2.2.2.2.2.1 ∧ RdN 2 voteR w lo hi B p d ts[k].2.2.2.2.2.2 := by
  obtain ⟨cs, _, h5, A, n', c', B, p, d, rfl, h6, h7⟩ := h.at_ hk
  exact ⟨A, n', c', B, p, d, h5 0 _ rfl, h5 1 _ rfl, h5 2 _ rfl, h5 3 _ rfl, h5 4 _ rfl, h5 5 _ rfl, h5 6 _ rfl, h5 7 _ rfl, h5 8 _ rfl, h5 9 _ rfl, h5 10 _ rfl, h6, h7⟩
theorem RdN.rep {ts : List RepT} (h : RdN 7 repR w lo hi (some ⟨b, off, none⟩) n c ts) (hk : k < ts.length) :
    ∃ A n' c' B p d E q f, w.cell? ⟨b, off + k * 7, none⟩ = some (.int .i64 ts[k].1) ∧ w.cell? ⟨b, off + k * 7 + 1, none⟩ = some (.int .i64 ts[k].2.1) ∧ w.cell? ⟨b, off + k * 7 + 2, none⟩ = some (.bool ts[k].2.2.1) ∧ w.cell? ⟨b, off + k * 7 + 3, none⟩ = some (.int .i64 ts[k].2.2.2.1) ∧
      w.cell? ⟨b, off + k * 7 + 4, none⟩ = some (.slice A n' c') ∧ w.cell? ⟨b, off + k * 7 + 5, none⟩ = some (.slice B p d) ∧ w.cell? ⟨b, off + k * 7 + 6, none⟩ = some (.slice E q f) ∧ RdN 7 clR w lo hi A n' c' ts[k].2.2.2.2.1 ∧ RdN 11 msgR w lo hi B p d ts[k].2.2.2.2.2.1 ∧ RdN 7 clR w lo hi E q f ts[k].2.2.2.2.2.2 := by
  obtain ⟨cs, _, h5, A, n', c', B, p, d, E, q, f, rfl, h6, h7, h8⟩ := h.at_ hk
  exact ⟨A, n', c', B, p, d, E, q, f, h5 0 _ rfl, h5 1 _ rfl, h5 2 _ rfl, h5 3 _ rfl, h5 4 _ rfl, h5 5 _ rfl, h5 6 _ rfl, h6, h7, h8⟩
end

/-! How many elements there are in all. -/
def szVote (t : VoteT) : Nat := t.2.length
def szVotes (ts : List VoteT) : Nat := ts.length + (ts.map szVote).sum
def szMsg (m : MsgT) : Nat := m.2.2.2.2.2.1.length + szVotes m.2.2.2.2.2.2
def szMsgs (ts : List MsgT) : Nat := ts.length + (ts.map szMsg).sum
def szRep (r : RepT) : Nat := r.2.2.2.2.1.length + szMsgs r.2.2.2.2.2.1 + r.2.2.2.2.2.2.length
def szReps (ts : List RepT) : Nat := ts.length + (ts.map szRep).sum
def szWorld (t : WorldT) : Nat := szReps t.2.1 + szMsgs t.2.2
theorem sum_at {α : Type} (f : α → Nat) : ∀ (ts : List α) (k : Nat) (hk : k < ts.length), f ts[k] ≤ (ts.map f).sum
  | t :: ts, 0, _ => by simp only [List.getElem_cons_zero, List.map_cons, List.sum_cons]; omega
  | t :: ts, k + 1, hk => by
    have := sum_at f ts k (by simpa using hk)
    simp only [List.getElem_cons_succ, List.map_cons, List.sum_cons]
    omega
theorem sum_take_succ {α : Type} (f : α → Nat) (ts : List α) (k : Nat) (hk : k < ts.length) : ((ts.take (k + 1)).map f).sum = ((ts.take k).map f).sum + f ts[k] := by
  rw [List.take_succ_eq_append_getElem hk, List.map_append, List.sum_append]
  simp only [List.map_cons, List.map_nil, List.sum_cons, List.sum_nil]
  omega
theorem sum_take_le {α : Type} (f : α → Nat) (ts : List α) (k : Nat) : ((ts.take k).map f).sum ≤ (ts.map f).sum := by
  have : ts.map f = (ts.take k).map f ++ (ts.drop k).map f := by rw [← List.map_append, List.take_append_drop]
  rw [this, List.sum_append]
  omega
/-- What a size check returns. -/
def szO (left total : Nat) : Int := if left < total then -1 else (left : Int) - total
end Go.Proofs.YtajmfonepnkofaaDoor
namespace Go.Proofs.YtajmfonepnkofaaDoor
open Go.RowKit Rg
set_option linter.unusedVariables false
set_option linter.unusedSimpArgs false

theorem okR_eq (a b c x y : Int) : okR (a, b, c, x, y) = (inB a 1 4 && (inB b 1 30 && (if c = 1 ∨ c = 3 then (x == 0 && y == 0) else if c = 2 then inB x (-1) 1 && inB y (-1) 1 else if c = 4 then inB x 1 4 && (y == 0) else if c = 5 then inB x 1 4 && inB y 1 9 else false))) := rfl
set_option maxHeartbeats 1000000 in
theorem ReqOk_c (a b c x y : Int) (w : World) : Calls Tryd.prog 31 #[.agg #[.int .i64 a, .int .i64 b, .int .i64 c, .int .i64 x, .int .i64 y]] w fun e w' => e = .returned (.bool (okR (a, b, c, x, y))) ∧ Below w.heap.size w w' := by
  rw [okR_eq]
  generalize hz : (if c = 1 ∨ c = 3 then (x == 0 && y == 0) else if c = 2 then inB x (-1) 1 && inB y (-1) 1 else if c = 4 then inB x 1 4 && (y == 0) else if c = 5 then inB x 1 4 && inB y 1 9 else false) = z
  have hz' := hide hz
  clear hz
  go_enter Tryd.func31, Tryd.ntmps31
  go_wp2_with (first
    | (go_at_call 54; refine (in_c _ _ _ _).mono ?_; rintro e w' ⟨rfl, rfl⟩)
    | (go_at_call 58; refine (isClient_c _ _).mono ?_; rintro e w' ⟨rfl, rfl⟩))
  all_goals
    go_ret
    refine ⟨congrArg (fun b => Ending.returned (.bool b)) ?_, ((Below.refl _ _).alloc (Nat.le_refl _) _)⟩
    have hz := hz'.out
    rw [← hz]
    clear hz hz'
    try simp only [beq_iff_eq, beq_eq_false_iff_ne, Bool.not_eq_true', Bool.not_eq_false', ne_eq] at *
    simp [*]
set_option maxHeartbeats 1000000 in
theorem l1Ok_c (a b c x y : Int) (w : World) : Calls Tryd.prog 22 #[.agg #[.int .i64 a, .int .i64 b, .int .i64 c, .int .i64 x, .int .i64 y]] w fun e w' => e = .returned (.bool (okR (a, b, c, x, y))) ∧ Below w.heap.size w w' := by
  rw [okR_eq]
  generalize hz : (if c = 1 ∨ c = 3 then (x == 0 && y == 0) else if c = 2 then inB x (-1) 1 && inB y (-1) 1 else if c = 4 then inB x 1 4 && (y == 0) else if c = 5 then inB x 1 4 && inB y 1 9 else false) = z
  have hz' := hide hz
  clear hz
  go_enter Tryd.func22, Tryd.ntmps22
  go_wp2_with (go_at_call 20; refine (l1In_c _ _ _ _).mono ?_; rintro e w' ⟨rfl, rfl⟩)
  all_goals
    go_ret
    refine ⟨congrArg (fun b => Ending.returned (.bool b)) ?_, ((Below.refl _ _).alloc (Nat.le_refl _) _)⟩
    have hz := hz'.out
    rw [← hz]
    clear hz hz'
    try simp only [beq_iff_eq, beq_eq_false_iff_ne, Bool.not_eq_true', Bool.not_eq_false', ne_eq] at *
    simp [*]

/-- No ask. -/
def noneR (t : ReqV) : Bool := decide (t = (0, 0, 0, 0, 0))
/-- Whether an ask is ok, or none. -/
def okN (t : ReqV) : Bool := noneR t || okR t
theorem noneR_eq (a b c x y : Int) : noneR (a, b, c, x, y) = ((a == 0) && ((b == 0) && ((c == 0) && ((x == 0) && (y == 0))))) := by
  unfold noneR
  rw [Bool.eq_iff_iff]
  simp
theorem l1None_c (a b c x y : Int) (w : World) : Calls Tryd.prog 48 #[.agg #[.int .i64 a, .int .i64 b, .int .i64 c, .int .i64 x, .int .i64 y]] w fun e w' => e = .returned (.bool (noneR (a, b, c, x, y))) ∧ Below w.heap.size w w' := by
  rw [noneR_eq]
  go_enter Tryd.func48, Tryd.ntmps48
  go_wp2
  all_goals
    go_ret
    exact ⟨by simp [*], (Below.refl _ _).alloc (Nat.le_refl _) _⟩
theorem okOrNull_c (a b c x y : Int) (w : World) : Calls Tryd.prog 42 #[.agg #[.int .i64 a, .int .i64 b, .int .i64 c, .int .i64 x, .int .i64 y]] w fun e w' => e = .returned (.bool (okN (a, b, c, x, y))) ∧ Below w.heap.size w w' := by
  go_enter Tryd.func42, Tryd.ntmps42
  go_wp2_with (go_at_call 31; refine (ReqOk_c _ _ _ _ _ _).mono ?_; rintro e w' ⟨rfl, hb1⟩)
  all_goals
    go_ret
    refine ⟨by simp [okN, noneR_eq, *], ?_⟩
    first
      | exact (Below.refl _ _).alloc (Nat.le_refl _) _
      | exact ((Below.refl _ _).alloc (Nat.le_refl _) _).trans (hb1.mono (by simp))

/-- Two asks, compared. -/
theorem run_eq_req (r s : ReqV) (w : World) : (binOp .eql 37 (.agg #[.int .i64 r.1, .int .i64 r.2.1, .int .i64 r.2.2.1, .int .i64 r.2.2.2.1, .int .i64 r.2.2.2.2]) (.agg #[.int .i64 s.1, .int .i64 s.2.1, .int .i64 s.2.2.1, .int .i64 s.2.2.2.1, .int .i64 s.2.2.2.2])).run Tryd.prog w = .ok (.bool (decide (r = s))) w := by
  obtain ⟨a, b, c, x, y⟩ := r
  obtain ⟨a', b', c', x', y'⟩ := s
  go_simp
  by_cases h1 : a = a' <;> by_cases h2 : b = b' <;> by_cases h3 : c = c' <;> by_cases h4 : x = x' <;> by_cases h5 : y = y' <;> simp [*]
/-- Whether a claim is ok. -/
def okCl (c : ClaimT) : Bool := inB c.1 1 5 && (inB c.2.1 0 6 && okN c.2.2)
/-- Who leads. -/
def leadI (v : Int) : Int := if inB v 0 6 then v % 4 else -1
end Go.Proofs.YtajmfonepnkofaaDoor
namespace Go.Proofs.YtajmfonepnkofaaDoor
open Go.RowKit Rg
set_option linter.unusedVariables false
set_option linter.unusedSimpArgs false

abbrev entR : ElR EntT := flatR encEnt
abbrev intR : ElR Int := flatR encI
theorem Own.ad {α : Type} {enc : α → List Value} {sz lo : Nat} {e : TypeId} {w : World} {A : Option Addr} {n c : Nat} {xs : List α} (h : Own enc sz e w lo (.slice A n c) xs) : A = none ∧ n = 0 ∧ c = 0 ∨ ∃ b off, A = some ⟨b, off, none⟩ := by
  rcases h with ⟨h1, _⟩ | ⟨g, cap, cur, h1, _⟩
  · injection h1 with e1 e2 e3
    exact .inl ⟨e1, e2, e3⟩
  · injection h1 with e1 e2 e3
    exact .inr ⟨g, 0, e1⟩
/-- A plain slice that reads as a list; its block is one of D. -/
structure RdD {α : Type} (enc : α → List Value) (sz : Nat) (w : World) (D : Nat → Prop) (A : Option Addr) (n c : Nat) (xs : List α) : Prop where
  len : n = xs.length
  cap : n ≤ c
  max : c ≤ maxLen
  row : xs ≠ [] → ∃ b off, A = some ⟨b, off, none⟩ ∧ D b ∧ ∀ (i : Nat) (x : α), xs[i]? = some x → ∀ (j : Nat) (u : Value), (enc x)[j]? = some u → w.cell? ⟨b, off + i * sz + j, none⟩ = some u
section
variable {α : Type} {enc : α → List Value} {sz : Nat} {w w' : World} {D D' : Nat → Prop} {A : Option Addr} {n c : Nat} {xs : List α}
theorem RdD.keep (h : RdD enc sz w D A n c xs) (hk : ∀ b, D b → w'.heap[b]? = w.heap[b]?) : RdD enc sz w' D A n c xs :=
  ⟨h.len, h.cap, h.max, fun hne => by
    obtain ⟨b, off, e, h1, h3⟩ := h.row hne
    exact ⟨b, off, e, h1, fun i x hx j u hu => (World.cell?_of_block (hk b h1)).trans (h3 i x hx j u hu)⟩⟩
theorem RdD.below {K : Nat} (h : RdD enc sz w D A n c xs) (hb : Below K w w') (hD : ∀ b, D b → b < K) : RdD enc sz w' D A n c xs := h.keep fun b h1 => hb.block b (hD b h1)
theorem RdD.mono (h : RdD enc sz w D A n c xs) (hD : ∀ b, D b → D' b) : RdD enc sz w D' A n c xs :=
  ⟨h.len, h.cap, h.max, fun hne => by
    obtain ⟨b, off, e, h1, h3⟩ := h.row hne
    exact ⟨b, off, e, hD b h1, h3⟩⟩
theorem RdD.addr (h : RdD enc sz w D A n c xs) {k : Nat} (hk : k < xs.length) : ∃ b off, A = some ⟨b, off, none⟩ ∧ D b := by
  obtain ⟨b, off, e, h1, _⟩ := h.row (by rintro rfl; simp at hk)
  exact ⟨b, off, e, h1⟩
theorem RdD.sl {hi : Nat} (h : RdD enc sz w D A n c xs) (hD : ∀ b, D b → b < hi) : Sl enc sz w 0 hi A xs := fun hne => by
  obtain ⟨b, off, e, h1, h3⟩ := h.row hne
  exact ⟨b, off, e, Nat.zero_le _, hD b h1, h3⟩
theorem RdD.rdn {hi : Nat} (hl : ∀ x, (enc x).length = sz) (h : RdD enc sz w D A n c xs) (hD : ∀ b, D b → b < hi) : RdN sz (flatR enc) w 0 hi A n c xs := (h.sl hD).rdn hl h.len h.cap h.max
theorem RdD.drop_ {b off : Nat} (h : RdD enc sz w D (some ⟨b, off, none⟩) n c xs) (k : Nat) (hk : k ≤ n) : RdD enc sz w D (some ⟨b, off + k * sz, none⟩) (n - k) (c - k) (xs.drop k) :=
  ⟨by have := h.len; simp; omega, by have := h.cap; omega, by have := h.max; omega, fun hne => by
    obtain ⟨b', off', e, h1, h3⟩ := h.row (by rintro rfl; simp at hne)
    injection e with e
    injection e with e1 e2
    subst e1; subst e2
    refine ⟨b, _, rfl, h1, fun i x hx j u hu => ?_⟩
    have := h3 (k + i) x (by rw [List.getElem?_drop] at hx; exact hx) j u hu
    rw [Nat.add_mul, ← Nat.add_assoc] at this
    exact this⟩
theorem RdN.rdD {lo hi : Nat} (h : RdN sz (flatR enc) w lo hi A n c xs) (hD : ∀ b, lo ≤ b → b < hi → D b) : RdD enc sz w D A n c xs :=
  ⟨h.len, h.cap, h.max, fun hne => by
    obtain ⟨b, off, e, h1, h2, h3⟩ := h.sl hne
    exact ⟨b, off, e, hD b h1 h2, h3⟩⟩
theorem Own.rdD {e : TypeId} {lo : Nat} (hl : ∀ x, (enc x).length = sz) (h : Own enc sz e w lo (.slice A n c) xs) (hD : ∀ b, lo ≤ b → b < w.heap.size → D b) : RdD enc sz w D A n c xs := (h.rdn hl).rdD hD
end
/-- A game: its three slices lie in blocks of D. -/
structure GmD (w : World) (D : Nat → Prop) (A : Option Addr) (n c : Nat) (B : Option Addr) (p d : Nat) (E : Option Addr) (q f : Nat) (g : GameT) : Prop where
  en : RdD encEnt 5 w D A n c g.1
  fl : RdD encI 1 w D B p d g.2.1
  la : RdD encI 1 w D E q f g.2.2
  ad : A = none ∧ n = 0 ∧ c = 0 ∨ ∃ b off, A = some ⟨b, off, none⟩
section
variable {w w' : World} {D D' : Nat → Prop} {A : Option Addr} {n c : Nat} {B : Option Addr} {p d : Nat} {E : Option Addr} {q f : Nat} {g : GameT}
theorem GmD.keep (h : GmD w D A n c B p d E q f g) (hk : ∀ b, D b → w'.heap[b]? = w.heap[b]?) : GmD w' D A n c B p d E q f g := ⟨h.en.keep hk, h.fl.keep hk, h.la.keep hk, h.ad⟩
theorem GmD.below {K : Nat} (h : GmD w D A n c B p d E q f g) (hb : Below K w w') (hD : ∀ b, D b → b < K) : GmD w' D A n c B p d E q f g := h.keep fun b h1 => hb.block b (hD b h1)
theorem GmD.mono (h : GmD w D A n c B p d E q f g) (hD : ∀ b, D b → D' b) : GmD w D' A n c B p d E q f g := ⟨h.en.mono hD, h.fl.mono hD, h.la.mono hD, h.ad⟩
end
theorem RdD.ent {w : World} {D : Nat → Prop} {b off n c k : Nat} {ts : List EntT} (h : RdD encEnt 5 w D (some ⟨b, off, none⟩) n c ts) (hk : k < ts.length) :
    w.cell? ⟨b, off + k * 5, none⟩ = some (.int .i64 ts[k].1) ∧ w.cell? ⟨b, off + k * 5 + 1, none⟩ = some (.int .i64 ts[k].2.1) ∧ w.cell? ⟨b, off + k * 5 + 2, none⟩ = some (.int .i64 ts[k].2.2.1) ∧ w.cell? ⟨b, off + k * 5 + 3, none⟩ = some (.int .i64 ts[k].2.2.2.1) ∧ w.cell? ⟨b, off + k * 5 + 4, none⟩ = some (.int .i64 ts[k].2.2.2.2) := by
  obtain ⟨b', off', e, h1, h3⟩ := h.row (by rintro rfl; simp at hk)
  injection e with e
  injection e with e1 e2
  subst e1; subst e2
  have h5 := h3 k ts[k] (List.getElem?_eq_getElem hk)
  exact ⟨h5 0 _ rfl, h5 1 _ rfl, h5 2 _ rfl, h5 3 _ rfl, h5 4 _ rfl⟩
theorem RdD.i64 {w : World} {D : Nat → Prop} {b off n c k : Nat} {ts : List Int} (h : RdD encI 1 w D (some ⟨b, off, none⟩) n c ts) (hk : k < ts.length) : w.cell? ⟨b, off + k, none⟩ = some (.int .i64 ts[k]) := by
  obtain ⟨b', off', e, h1, h3⟩ := h.row (by rintro rfl; simp at hk)
  injection e with e
  injection e with e1 e2
  subst e1; subst e2
  have h5 := h3 k ts[k] (List.getElem?_eq_getElem hk) 0 _ rfl
  simpa using h5
theorem RdN.ent {w : World} {lo hi b off n c k : Nat} {ts : List EntT} (h : RdN 5 entR w lo hi (some ⟨b, off, none⟩) n c ts) (hk : k < ts.length) :
    w.cell? ⟨b, off + k * 5, none⟩ = some (.int .i64 ts[k].1) ∧ w.cell? ⟨b, off + k * 5 + 1, none⟩ = some (.int .i64 ts[k].2.1) ∧ w.cell? ⟨b, off + k * 5 + 2, none⟩ = some (.int .i64 ts[k].2.2.1) ∧ w.cell? ⟨b, off + k * 5 + 3, none⟩ = some (.int .i64 ts[k].2.2.2.1) ∧ w.cell? ⟨b, off + k * 5 + 4, none⟩ = some (.int .i64 ts[k].2.2.2.2) := by
  obtain ⟨cs, _, h5, h6⟩ := h.at_ hk
  have h7 : cs = encEnt ts[k] := h6
  subst h7
  exact ⟨h5 0 _ rfl, h5 1 _ rfl, h5 2 _ rfl, h5 3 _ rfl, h5 4 _ rfl⟩
theorem RdN.int_ {w : World} {lo hi b off n c k : Nat} {ts : List Int} (h : RdN 1 intR w lo hi (some ⟨b, off, none⟩) n c ts) (hk : k < ts.length) : w.cell? ⟨b, off + k, none⟩ = some (.int .i64 ts[k]) := h.sl.i64 hk
/-- A box of three cells. -/
def Bx3 (w : World) (b : Nat) (v0 v1 v2 : Value) (t : TypeId) : Prop := w.heap[b]? = some (.cells #[v0, v1, v2] t (0, 0))
section
variable {w w' : World} {b : Nat} {v0 v1 v2 : Value} {t : TypeId}
theorem Bx3.made (w : World) (v0 v1 v2 : Value) (t : TypeId) : Bx3 (w.alloc (.cells #[v0, v1, v2] t)) w.heap.size v0 v1 v2 t := heap_alloc_new w _
theorem Bx3.lt (h : Bx3 w b v0 v1 v2 t) : b < w.heap.size := lt_of_heap h
theorem Bx3.below {K : Nat} (h : Bx3 w b v0 v1 v2 t) (hb : Below K w w') (hK : b < K) : Bx3 w' b v0 v1 v2 t := (hb.block b hK).trans h
theorem Bx3.keep (h : Bx3 w b v0 v1 v2 t) (hb : w'.heap[b]? = w.heap[b]?) : Bx3 w' b v0 v1 v2 t := hb.trans h
theorem Bx3.cells (h : Bx3 w b v0 v1 v2 t) : w.cell? ⟨b, 0, none⟩ = some v0 ∧ w.cell? ⟨b, 1, none⟩ = some v1 ∧ w.cell? ⟨b, 2, none⟩ = some v2 ∧ w.frozen? ⟨b, 0, none⟩ = false ∧ w.frozen? ⟨b, 1, none⟩ = false ∧ w.frozen? ⟨b, 2, none⟩ = false := by
  unfold Bx3 at h
  refine ⟨?_, ?_, ?_, ?_, ?_, ?_⟩ <;> first | (simp only [World.cell?, h]; rfl) | (simp [World.frozen?, h])
theorem Bx3.set0 (h : Bx3 w b v0 v1 v2 t) (u : Value) : Bx3 (w.setCell ⟨b, 0, none⟩ u) b u v1 v2 t := by
  unfold Bx3 at *; simp [World.setCell, Array.getElem?_modify, h]
theorem Bx3.set1 (h : Bx3 w b v0 v1 v2 t) (u : Value) : Bx3 (w.setCell ⟨b, 1, none⟩ u) b v0 u v2 t := by
  unfold Bx3 at *; simp [World.setCell, Array.getElem?_modify, h]
theorem Bx3.set2 (h : Bx3 w b v0 v1 v2 t) (u : Value) : Bx3 (w.setCell ⟨b, 2, none⟩ u) b v0 v1 u t := by
  unfold Bx3 at *; simp [World.setCell, Array.getElem?_modify, h]
end
/-- The place of a player's figure, or -1. -/
def atI (es : List EntT) (c : Int) : Int := match figI es c with | some k => (k : Int) | none => -1
theorem atI_some {es : List EntT} {c : Int} {k : Nat} (hk : k < es.length) (h : es[k].1 = c) (hn : ∀ (i : Nat) (hi : i < es.length), i < k → es[i].1 ≠ c) : atI es c = (k : Int) := by
  have : figI es c = some k := by
    unfold figI
    rw [List.findIdx?_eq_some_iff_getElem]
    exact ⟨hk, by simpa using h, fun j hj => by simpa using hn j (by omega) hj⟩
  unfold atI; rw [this]
theorem atI_none {es : List EntT} {c : Int} (hn : ∀ (i : Nat) (hi : i < es.length), es[i].1 ≠ c) : atI es c = -1 := by
  have : figI es c = none := by
    unfold figI
    rw [List.findIdx?_eq_none_iff]
    intro e he
    obtain ⟨i, hi, rfl⟩ := List.mem_iff_getElem.1 he
    simpa using hn i hi
  unfold atI; rw [this]
theorem okR_iff (t : ReqV) : okR t = true ↔ okA t := by
  obtain ⟨a, b, c, x, y⟩ := t
  rw [okR_eq]
  unfold okA rng
  simp only [inB, Bool.and_eq_true, decide_eq_true_eq]
  constructor
  · rintro ⟨h1, h2, h3⟩
    refine ⟨h1, h2, ?_⟩
    split at h3
    · simp at h3; omega
    · split at h3
      · simp at h3; omega
      · split at h3
        · simp at h3; omega
        · split at h3
          · simp at h3; omega
          · cases h3
  · rintro ⟨h1, h2, h3⟩
    refine ⟨h1, h2, ?_⟩
    split
    · simp; omega
    · split
      · simp; omega
      · split
        · simp; omega
        · split
          · simp; omega
          · exfalso; omega
end Go.Proofs.YtajmfonepnkofaaDoor
namespace Go.Proofs.YtajmfonepnkofaaDoor
open Go.RowKit Rg
set_option linter.unusedVariables false
set_option linter.unusedSimpArgs false

namespace Rg
/-- Block b is as it was: kept behind the effects of a region whose loads of that block may come up late. -/
structure Stays (b : Nat) (o : Option Obj) (w2 : World) : Prop where
  heap : w2.heap[b]? = o
theorem Stays.drew {b : Nat} {o : Option Obj} {w : World} (h : Stays b o w) : Stays b o w.drew := ⟨h.heap⟩
theorem Stays.cell {b : Nat} {o : Option Obj} {w : World} (h : Stays b o w) {p : Addr} {u : Value} (hne : b ≠ p.block) : Stays b o (w.setCell p u) := ⟨(Below.heap_setCell w p u b hne).trans h.heap⟩
theorem Stays.and_ {b : Nat} {o : Option Obj} {w : World} {R : Prop} (h : Stays b o w) (k : Stays b o w → R) : Stays b o w ∧ R := ⟨h, k h⟩
theorem gives_load_at {P : Program} {o : Oper} {a : Act} {w w2 : World} {p : Addr} {v : Value} {t : TypeId} {x : Operand} {cs : Array Value} {e : TypeId} {fz : Nat × Nat} (ho : o.op = .load t x) (hx : a.eval x = .pointer (some p)) (hh : w.heap[p.block]? = some (.cells cs e fz)) (hh2 : w2.heap[p.block]? = some (.cells cs e fz)) (hg : Gives P o a w v) :
    Gives P o a w2 v := by
  unfold Gives at *
  obtain ⟨dst, op, type, pos, after, guard⟩ := o
  simp only at ho
  subst ho
  simp only [execOp, hx, Instr.loadAt, Instr.sureAddr, Sem.run_bind, Sem.run_pure, Result.andThen_ok, loadVar] at hg ⊢
  cases hi : (isAgg t).run P w with
  | halt x w1 => rw [hi] at hg; simp at hg
  | ok b w1 =>
    obtain ⟨rfl, hi2⟩ := free_isAgg P t w w2 b w1 hi
    rw [hi] at hg
    rw [hi2]
    simp only [Result.andThen_ok] at hg ⊢
    cases b
    · simp only [Bool.false_eq_true, if_false] at hg ⊢
      cases hl : (load p).run P w1 with
      | halt x w3 => rw [hl] at hg; simp at hg
      | ok u' w3 =>
        rw [hl] at hg
        simp only [Result.andThen_ok, Result.ok.injEq, Next.value.injEq] at hg
        obtain ⟨rfl, rfl⟩ := hg
        rw [run_load_since hh hh2 rfl hl]
        rfl
    · simp only [if_true, Sem.run_bind, Sem.run_pure] at hg ⊢
      cases hs : (sizeOf t).run P w1 with
      | halt x w3 => rw [hs] at hg; simp at hg
      | ok n w3 =>
        obtain ⟨rfl, hs2⟩ := free_sizeOf P t w1 w2 n w3 hs
        rw [hs] at hg
        rw [hs2]
        simp only [Result.andThen_ok, loadCells] at hg ⊢
        cases hl : (loadCellsFrom p 0 n #[]).run P w3 with
        | halt x w4 => rw [hl] at hg; simp at hg
        | ok r w4 =>
          rw [hl] at hg
          simp only [Result.andThen_ok, Result.ok.injEq, Next.value.injEq] at hg
          obtain ⟨rfl, rfl⟩ := hg
          rw [run_loadCells_since hh hh2 n 0 #[] r hl]
          rfl
theorem wpT_k {P : Program} {ops : Array Oper} {et sl : List Tmp} {QT : Act → World → Prop} {o : Oper} {rest : List Oper} {a : Act} {w : World} {b : Nat} {ob : Option Obj} {t : TypeId} (x : Operand) (p : Addr) (hg : o.guard = none) (ho : o.op = .load t x) (het : inT et o = false) (hx : a.eval x = .pointer (some p))
    (hS : Stays b ob w) (hp : p.block = b) (hc : (w.cell? p).isSome = true)
    (h : ∀ K : Act → World → Prop, (∀ a', wpT P ops (Stays b ob) et sl QT rest a' w → K a' w) → o.wp P a w K Qf) : wpT P ops (Stays b ob) et sl QT (o :: rest) a w := by
  have h1 := h (fun a' w' => w' = w ∧ wpT P ops (Stays b ob) et sl QT rest a' w') (fun a' h => ⟨rfl, h⟩)
  have he : isE et o = false := by simp [isE, isEop, ho, het]
  obtain ⟨u, hc⟩ := Option.isSome_iff_exists.1 hc
  unfold Oper.wp at h1
  generalize hr : (execOp a.eval o).run P w = r at h1
  cases r with
  | ok n w' =>
    obtain ⟨v, rfl⟩ := exec_value he hr
    simp only [Oper.upon] at h1
    obtain ⟨rfl, h2⟩ := h1
    refine wpT_s v he hg hr (fun w2 h3 => ?_) h2
    have hb : w2.heap[p.block]? = w'.heap[p.block]? := by rw [hp, h3.heap, hS.heap]
    obtain ⟨cs, e, fz, hh⟩ : ∃ cs e fz, w'.heap[p.block]? = some (.cells cs e fz) := by
      unfold World.cell? at hc
      split at hc
      · rename_i cs e fz hh; exact ⟨cs, e, fz, hh⟩
      · cases hc
    exact gives_load_at ho hx hh (hb.trans hh) hr
  | halt y w' =>
    exfalso
    cases y <;> simp only [Oper.upon] at h1
    exact h1
end Rg
end Go.Proofs.YtajmfonepnkofaaDoor
namespace Go.Proofs.YtajmfonepnkofaaDoor
open Go.RowKit Rg
set_option linter.unusedVariables false
set_option linter.unusedSimpArgs false

namespace Rg
theorem wpT_sw {P : Program} {ops : Array Oper} {S : World → Prop} {et sl : List Tmp} {QT : Act → World → Prop} {o : Oper} {rest : List Oper} {a : Act} {w : World} (v : Value) (he : isE et o = false) (hg : Region.wanted o (yielded ops a.tmps) = true) (hv : Gives P o a w v) (hs : ∀ w2, S w2 → Gives P o a w2 v)
    (h : wpT P ops S et sl QT rest (a.put o.dst v) w) : wpT P ops S et sl QT (o :: rest) a w := by
  unfold wpT opT
  rw [if_pos hg, if_neg (by simp [he])]
  exact ⟨v, hv, fun _ => hs, h⟩
/-- A guarded load that may come up behind an effect: its block stood when the region began. -/
theorem wpT_lw {P : Program} {ops : Array Oper} {et sl : List Tmp} {QT : Act → World → Prop} {o : Oper} {rest : List Oper} {a : Act} {w w0 : World} {t : TypeId} (x : Operand) (p : Addr) (hg : Region.wanted o (yielded ops a.tmps) = true) (ho : o.op = .load t x) (het : inT et o = false) (hx : a.eval x = .pointer (some p))
    (hS : Since w0 w) (hp : p.block < w0.heap.size) (hc : (w.cell? p).isSome = true)
    (h : ∀ K : Act → World → Prop, (∀ a', wpT P ops (Since w0) et sl QT rest a' w → K a' w) → o.wp P a w K Qf) : wpT P ops (Since w0) et sl QT (o :: rest) a w := by
  have h1 := h (fun a' w' => w' = w ∧ wpT P ops (Since w0) et sl QT rest a' w') (fun a' h => ⟨rfl, h⟩)
  have he : isE et o = false := by simp [isE, isEop, ho, het]
  obtain ⟨u, hc⟩ := Option.isSome_iff_exists.1 hc
  unfold Oper.wp at h1
  generalize hr : (execOp a.eval o).run P w = r at h1
  cases r with
  | ok n w' =>
    obtain ⟨v, rfl⟩ := exec_value he hr
    simp only [Oper.upon] at h1
    obtain ⟨rfl, h2⟩ := h1
    exact wpT_sw v he hg hr (gives_load ho hx hc hp hS hr) h2
  | halt y w' =>
    exfalso
    cases y <;> simp only [Oper.upon] at h1
    exact h1
end Rg
end Go.Proofs.YtajmfonepnkofaaDoor
namespace Go.Proofs.YtajmfonepnkofaaDoor
open Go.RowKit Rg
set_option linter.unusedVariables false
set_option linter.unusedSimpArgs false

theorem l2At_c (A : Option Addr) (n c : Nat) (B : Option Addr) (p d : Nat) (E : Option Addr) (q f : Nat) (lo hi : Nat) (es : List EntT) (cl : Int) (w : World) (hs : RdN 5 entR w lo hi A n c es) (hhi : hi ≤ w.heap.size) :
    Calls Tryd.prog 49 #[.agg #[.slice A n c, .slice B p d, .slice E q f], .int .i64 cl] w fun e w' => e = .returned (.int .i64 (atI es cl)) ∧ Below w.heap.size w w' := by
  have hb0 := (Below.refl w.heap.size w).alloc (Nat.le_refl _) (.cells #[.slice A n c, .slice B p d, .slice E q f] 35)
  have hx0 := Bx3.made w (.slice A n c) (.slice B p d) (.slice E q f) 35
  have hs0 := hs.below (flat_kept _) hb0 hhi
  have hn' := hide hs.len
  have hcap := hs.cap
  have hmax := hs.max
  unfold maxLen at hmax
  obtain ⟨x0, x1, x2, f0, f1, f2⟩ := hx0.cells
  have hl0 := hx0.lt
  clear hs hx0
  go_enter Tryd.func49, Tryd.ntmps49
  go_wp2
  generalize w.alloc (.cells #[.slice A n c, .slice B p d, .slice E q f] 35) = w0 at *
  go_loop [5] (fun iv => ∃ k : Nat, k ≤ n ∧ iv = .int .i64 (k : Int) ∧ Hid (∀ (i : Nat) (hi : i < es.length), i < k → es[i].1 ≠ cl)) (fun iv => n - (intOf iv).toNat)
  case atStart => exact ⟨0, Nat.zero_le _, rfl, hide (fun i _ h => absurd h (by omega))⟩
  case round =>
    obtain ⟨k, hk, rfl, hno⟩ := hrel
    by_cases hlt : k < n
    · have hlx : k < es.length := by have := hn'.out; omega
      obtain ⟨b, off, rfl, hlo, hbh⟩ := hs0.addr hlx
      obtain ⟨a0, a1, a2, a3, a4⟩ := hs0.ent hlx
      cases e1 : (es[k].1 == cl)
      · have hne := hide (show es[k].1 ≠ cl by simpa using e1)
        go_wp2
        go_roundw
        case rel => exact ⟨k + 1, by omega, by go_num, hide (fun i hi h => by
          by_cases h9 : i < k
          · exact hno.out i hi h9
          · obtain rfl : i = k := by omega
            exact hne.out)⟩
        case measure => simp [intOf]; omega
      · have hy := hide (atI_some hlx (by simpa using e1) hno.out)
        go_wp2
        go_ret
        exact ⟨by rw [hy.out]; rfl, hb0⟩
    · obtain rfl : k = n := by omega
      have hy := hide (atI_none (es := es) (c := cl) (fun i hi => hno.out i hi (by have := hn'.out; omega)))
      go_wp2
      go_ret
      exact ⟨by rw [hy.out]; rfl, hb0⟩
theorem nearE_eq (a b : EntT) : decide (nearE a b) = (inB (a.2.1 - b.2.1) (-1) 1 && inB (a.2.2.1 - b.2.2.1) (-1) 1) := by
  have h : nearE a b ↔ (inB (a.2.1 - b.2.1) (-1) 1 && inB (a.2.2.1 - b.2.2.1) (-1) 1) = true := by simp [nearE, rng, inB]
  rw [Bool.eq_iff_iff, decide_eq_true_iff]
  exact h
def smallE (e : EntT) : Prop := rng e.2.1 0 3 ∧ rng e.2.2.1 0 3
theorem l2Near_c (a b : EntT) (w : World) (ha : smallE a) (hb : smallE b) :
    Calls Tryd.prog 80 #[.agg #[.int .i64 a.1, .int .i64 a.2.1, .int .i64 a.2.2.1, .int .i64 a.2.2.2.1, .int .i64 a.2.2.2.2], .agg #[.int .i64 b.1, .int .i64 b.2.1, .int .i64 b.2.2.1, .int .i64 b.2.2.2.1, .int .i64 b.2.2.2.2]] w fun e w' => e = .returned (.bool (decide (nearE a b))) ∧ Below w.heap.size w w' := by
  rw [nearE_eq]
  obtain ⟨⟨h1, h2⟩, h3, h4⟩ := ha
  obtain ⟨⟨h5, h6⟩, h7, h8⟩ := hb
  have hB := ((Below.refl w.heap.size w).alloc (Nat.le_refl _) (.cells #[.int .i64 a.1, .int .i64 a.2.1, .int .i64 a.2.2.1, .int .i64 a.2.2.2.1, .int .i64 a.2.2.2.2] 82)).alloc (by simp) (.cells #[.int .i64 b.1, .int .i64 b.2.1, .int .i64 b.2.2.1, .int .i64 b.2.2.2.1, .int .i64 b.2.2.2.2] 82)
  cases e1 : inB (a.2.1 - b.2.1) (-1) 1
  · go_enter Tryd.func80, Tryd.ntmps80
    go_wp2_with (go_at_call 20; refine (l1In_c _ _ _ _).mono ?_; rintro e _ ⟨rfl, rfl⟩)
    go_ret
    exact ⟨rfl, hB⟩
  · go_enter Tryd.func80, Tryd.ntmps80
    go_wp2_with (go_at_call 20; refine (l1In_c _ _ _ _).mono ?_; rintro e _ ⟨rfl, rfl⟩)
    go_ret
    exact ⟨rfl, hB⟩
end Go.Proofs.YtajmfonepnkofaaDoor
