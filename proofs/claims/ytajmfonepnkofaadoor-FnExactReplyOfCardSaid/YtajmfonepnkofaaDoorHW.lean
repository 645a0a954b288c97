/-
  Plain words for games: what an ask does to a game; a game that is ok stays ok; no program in sight.
  Conditions: none.
-/
import Derived.Test.YtajmfonepnkofaaDoorHE
namespace Go.Proofs.YtajmfonepnkofaaDoor

/-- Figures, gold on the floor, the last asks. -/
abbrev GameT := List EntT × List Int × List Int
/-- An ask: whose, its number, what, x, y. -/
abbrev AskT := ReqV

def rng (n lo hi : Int) : Prop := lo ≤ n ∧ n ≤ hi
instance (n lo hi : Int) : Decidable (rng n lo hi) := by unfold rng; infer_instance
def goldS (es : List EntT) : Int := (es.map (·.2.2.2.2)).sum
def entOk (e : EntT) : Prop := rng e.1 1 4 ∧ rng e.2.1 0 3 ∧ rng e.2.2.1 0 3 ∧ rng e.2.2.2.1 0 3 ∧ rng e.2.2.2.2 0 20
instance (e : EntT) : Decidable (entOk e) := by unfold entOk; infer_instance
/-- A game that is ok. -/
structure okG (g : GameT) : Prop where
  ent : ∀ e ∈ g.1, entOk e
  inc : (g.1.map (·.1)).Pairwise (· < ·)
  flo : ∀ x ∈ g.2.1, rng x 0 20
  las : ∀ x ∈ g.2.2, rng x 0 30
  n16 : g.2.1.length = 16
  n4 : g.2.2.length = 4
  sum : goldS g.1 + g.2.1.sum = 20
/-- An ask that is ok. -/
def okA (r : AskT) : Prop := rng r.1 1 4 ∧ rng r.2.1 1 30 ∧
  ((r.2.2.1 = 1 ∨ r.2.2.1 = 3) ∧ r.2.2.2.1 = 0 ∧ r.2.2.2.2 = 0 ∨ r.2.2.1 = 2 ∧ rng r.2.2.2.1 (-1) 1 ∧ rng r.2.2.2.2 (-1) 1 ∨ r.2.2.1 = 4 ∧ rng r.2.2.2.1 1 4 ∧ r.2.2.2.2 = 0 ∨ r.2.2.1 = 5 ∧ rng r.2.2.2.1 1 4 ∧ rng r.2.2.2.2 1 9)
instance (r : AskT) : Decidable (okA r) := by unfold okA; infer_instance
def noA : AskT := (0, 0, 0, 0, 0)
def okNA (r : AskT) : Prop := r = noA ∨ okA r
instance (r : AskT) : Decidable (okNA r) := by unfold okNA; infer_instance

/-- The place of a player's figure. -/
def figI (es : List EntT) (c : Int) : Option Nat := es.findIdx? (fun e => decide (e.1 = c))
def nearE (a b : EntT) : Prop := rng (a.2.1 - b.2.1) (-1) 1 ∧ rng (a.2.2.1 - b.2.2.1) (-1) 1
instance (a b : EntT) : Decidable (nearE a b) := by unfold nearE; infer_instance
def sqr (e : EntT) : Nat := (e.2.2.1 * 4 + e.2.1).toNat
def entG (e : EntT) (d : Int) : EntT := (e.1, e.2.1, e.2.2.1, e.2.2.2.1, e.2.2.2.2 + d)
/-- Behind all figures of lower players. -/
def joinE (es : List EntT) (c : Int) : List EntT := es.takeWhile (fun e => decide (e.1 < c)) ++ (c, c - 1, c - 1, 3, 0) :: es.dropWhile (fun e => decide (e.1 < c))
def moveE (e : EntT) (r : AskT) : EntT := (e.1, e.2.1 + r.2.2.2.1, e.2.2.1 + r.2.2.2.2, e.2.2.2.1, e.2.2.2.2)
def hitE (e : EntT) : EntT := (e.1, e.2.1, e.2.2.1, e.2.2.2.1 - 1, e.2.2.2.2)
def ent0 : EntT := (0, 0, 0, 0, 0)
/-- What an ask does with another's figure 'n'. -/
def other (g : GameT) (k n : Nat) (r : AskT) : GameT × Int :=
  let e := g.1.getD k ent0
  let o := g.1.getD n ent0
  if n = k ∨ ¬ nearE e o then (g, 8)
  else if r.2.2.1 = 5 then
    if e.2.2.2.2 < r.2.2.2.2 then (g, 7) else (((g.1.set n (entG o r.2.2.2.2)).set k (entG e (- r.2.2.2.2)), g.2.1, g.2.2), 0)
  else if o.2.2.2.1 - 1 ≤ 0 then ((g.1.eraseIdx n, g.2.1.set (sqr o) (g.2.1.getD (sqr o) 0 + o.2.2.2.2), g.2.2), 0)
  else ((g.1.set n (hitE o), g.2.1, g.2.2), 0)
/-- What an ask does with a player's figure 'k'. -/
def actG (g : GameT) (k : Nat) (r : AskT) : GameT × Int :=
  let e := g.1.getD k ent0
  if r.2.2.1 = 2 then (if rng (e.2.1 + r.2.2.2.1) 0 3 ∧ rng (e.2.2.1 + r.2.2.2.2) 0 3 then ((g.1.set k (moveE e r), g.2.1, g.2.2), 0) else (g, 6))
  else if r.2.2.1 = 3 then (if g.2.1.getD (sqr e) 0 = 0 then (g, 7) else ((g.1.set k (entG e 1), g.2.1.set (sqr e) (g.2.1.getD (sqr e) 0 - 1), g.2.2), 0))
  else match figI g.1 r.2.2.2.1 with
    | none => (g, 8)
    | some n => other g k n r
def lastG (g : GameT) (r : AskT) : GameT := (g.1, g.2.1, g.2.2.set (r.1 - 1).toNat r.2.1)
def behG (g : GameT) (r : AskT) : GameT × Int :=
  match figI g.1 r.1 with
  | none => if r.2.2.1 = 1 then ((joinE g.1 r.1, g.2.1, g.2.2), 0) else (g, 5)
  | some k => if r.2.2.1 = 1 then (g, 4) else actG g k r
/-- What an ask does. -/
def doG (g : GameT) (r : AskT) : GameT × Int :=
  if r = noA then (g, 2) else if r.2.1 ≤ g.2.2.getD (r.1 - 1).toNat 0 then (g, 3) else behG (lastG g r) r
/-- Asks, one behind another. -/
def foldG (g : GameT) : List AskT → GameT
  | [] => g
  | r :: rs => foldG (doG g r).1 rs
theorem foldG_snoc (g : GameT) (rs : List AskT) (r : AskT) : foldG g (rs ++ [r]) = (doG (foldG g rs) r).1 := by
  induction rs generalizing g with
  | nil => rfl
  | cons x rs ih => exact ih _
theorem foldG_append (g : GameT) (rs ss : List AskT) : foldG g (rs ++ ss) = foldG (foldG g rs) ss := by
  induction rs generalizing g with
  | nil => rfl
  | cons x rs ih => exact ih _
/-- The new game: gold on the floor. -/
def newG : GameT := ([], [2, 1, 1, 1, 1, 2, 1, 1, 1, 1, 2, 1, 1, 1, 1, 2], [0, 0, 0, 0])

section sums
theorem sum_set : ∀ (l : List Int) (i : Nat) (v : Int), i < l.length → (l.set i v).sum = l.sum - l.getD i 0 + v
  | [], i, v, h => by simp at h
  | x :: l, 0, v, _ => by simp; omega
  | x :: l, i + 1, v, h => by
    have := sum_set l i v (by simpa using h)
    simp only [List.set_cons_succ, List.sum_cons, this, List.getD_cons_succ]; omega
theorem sum_erase : ∀ (l : List Int) (i : Nat), i < l.length → (l.eraseIdx i).sum = l.sum - l.getD i 0
  | [], i, h => by simp at h
  | x :: l, 0, _ => by simp; omega
  | x :: l, i + 1, h => by
    have := sum_erase l i (by simpa using h)
    simp only [List.eraseIdx_cons_succ, List.sum_cons, this, List.getD_cons_succ]; omega
theorem le_sum : ∀ (l : List Int), (∀ x ∈ l, 0 ≤ x) → 0 ≤ l.sum ∧ ∀ x ∈ l, x ≤ l.sum
  | [], _ => by simp
  | y :: l, h => by
    obtain ⟨h1, h2⟩ := le_sum l (fun x hx => h x (by simp [hx]))
    have hy := h y (by simp)
    refine ⟨by simp only [List.sum_cons]; omega, fun x hx => ?_⟩
    simp only [List.sum_cons]
    rcases List.mem_cons.1 hx with rfl | hx
    · omega
    · have := h2 x hx; omega
theorem getD_mem {α : Type} {l : List α} {i : Nat} {d : α} (h : i < l.length) : l.getD i d ∈ l := by
  simp [List.getD, List.getElem?_eq_getElem h]
theorem goldS_set (es : List EntT) (i : Nat) (e : EntT) (h : i < es.length) : goldS (es.set i e) = goldS es - (es.getD i ent0).2.2.2.2 + e.2.2.2.2 := by
  unfold goldS
  rw [List.map_set, sum_set _ _ _ (by simpa using h)]
  congr 2
  simp [List.getD, List.getElem?_eq_getElem h]
theorem map_erase {α β : Type} (f : α → β) : ∀ (l : List α) (i : Nat), (l.eraseIdx i).map f = (l.map f).eraseIdx i
  | [], _ => rfl
  | x :: l, 0 => rfl
  | x :: l, i + 1 => by simp only [List.eraseIdx_cons_succ, List.map_cons, map_erase f l i]
theorem goldS_erase (es : List EntT) (i : Nat) (h : i < es.length) : goldS (es.eraseIdx i) = goldS es - (es.getD i ent0).2.2.2.2 := by
  unfold goldS
  rw [map_erase, sum_erase _ _ (by simpa using h)]
  congr 1
  simp [List.getD, List.getElem?_eq_getElem h]
theorem goldS_join (es : List EntT) (c : Int) : goldS (joinE es c) = goldS es := by
  unfold goldS joinE
  have h := List.takeWhile_append_dropWhile (p := fun (e : EntT) => decide (e.1 < c)) (l := es)
  have h2 : (es.map (·.2.2.2.2)).sum = ((es.takeWhile (fun e => decide (e.1 < c))).map (·.2.2.2.2)).sum + ((es.dropWhile (fun e => decide (e.1 < c))).map (·.2.2.2.2)).sum := by
    rw [← List.sum_append, ← List.map_append, h]
  rw [h2]
  simp [List.sum_append]
end sums

/-- Without the upper bounds on gold. -/
structure okG' (g : GameT) : Prop where
  ent : ∀ e ∈ g.1, rng e.1 1 4 ∧ rng e.2.1 0 3 ∧ rng e.2.2.1 0 3 ∧ rng e.2.2.2.1 0 3 ∧ 0 ≤ e.2.2.2.2
  inc : (g.1.map (·.1)).Pairwise (· < ·)
  flo : ∀ x ∈ g.2.1, 0 ≤ x
  las : ∀ x ∈ g.2.2, rng x 0 30
  n16 : g.2.1.length = 16
  n4 : g.2.2.length = 4
  sum : goldS g.1 + g.2.1.sum = 20
theorem okG.weak {g : GameT} (h : okG g) : okG' g :=
  ⟨fun e he => by obtain ⟨h1, h2, h3, h4, h5⟩ := h.ent e he; exact ⟨h1, h2, h3, h4, h5.1⟩, h.inc, fun x hx => (h.flo x hx).1, h.las, h.n16, h.n4, h.sum⟩
theorem okG'.full {g : GameT} (h : okG' g) : okG g := by
  have h1 := le_sum g.2.1 h.flo
  have h2 := le_sum (g.1.map (·.2.2.2.2)) (fun x hx => by
    obtain ⟨e, he, rfl⟩ := List.mem_map.1 hx
    exact (h.ent e he).2.2.2.2)
  have hs := h.sum
  unfold goldS at hs
  refine ⟨fun e he => ?_, h.inc, fun x hx => ⟨h.flo x hx, ?_⟩, h.las, h.n16, h.n4, h.sum⟩
  · obtain ⟨a, b, c, d, f⟩ := h.ent e he
    have := h2.2 _ (List.mem_map.2 ⟨e, he, rfl⟩)
    exact ⟨a, b, c, d, f, by have := h1.1; omega⟩
  · have := h1.2 x hx; have := h2.1; omega

theorem set_clients (es : List EntT) (i : Nat) (e : EntT) (h : i < es.length) (he : e.1 = (es.getD i ent0).1) : (es.set i e).map (·.1) = es.map (·.1) := by
  rw [List.map_set]
  apply List.ext_getElem (by simp)
  intro j h1 h2
  rw [List.getElem_set]
  split
  · rename_i hij
    subst hij
    rw [he]; simp [List.getD, List.getElem?_eq_getElem h]
  · rfl
theorem inc_set {es : List EntT} (h : (es.map (·.1)).Pairwise (· < ·)) (i : Nat) (e : EntT) (hi : i < es.length) (he : e.1 = (es.getD i ent0).1) : ((es.set i e).map (·.1)).Pairwise (· < ·) := by
  rw [set_clients es i e hi he]; exact h
theorem set_mem {α : Type} {l : List α} {i : Nat} {v x : α} (h : x ∈ l.set i v) : x = v ∨ x ∈ l := by
  rcases List.mem_or_eq_of_mem_set h with h | h
  · exact .inr h
  · exact .inl h
theorem sqr_lt {e : EntT} (h1 : rng e.2.1 0 3) (h2 : rng e.2.2.1 0 3) : sqr e < 16 := by unfold sqr rng at *; omega
theorem figI_lt {es : List EntT} {c : Int} {k : Nat} (h : figI es c = some k) : k < es.length := by
  unfold figI at h
  obtain ⟨hk, _⟩ := List.findIdx?_eq_some_iff_getElem.1 h
  exact hk
theorem figI_none {es : List EntT} {c : Int} (h : figI es c = none) : ∀ e ∈ es, e.1 ≠ c := by
  unfold figI at h
  intro e he
  have := List.findIdx?_eq_none_iff.1 h e he
  simpa using this
theorem joinE_inc {es : List EntT} {c : Int} (hi : (es.map (·.1)).Pairwise (· < ·)) (hn : ∀ e ∈ es, e.1 ≠ c) : ((joinE es c).map (·.1)).Pairwise (· < ·) := by
  unfold joinE
  induction es with
  | nil => simp
  | cons x es ih =>
    rw [List.map_cons, List.pairwise_cons] at hi
    by_cases hx : x.1 < c
    · have e1 : (x :: es).takeWhile (fun e => decide (e.1 < c)) = x :: es.takeWhile (fun e => decide (e.1 < c)) := by simp [List.takeWhile_cons, hx]
      have e2 : (x :: es).dropWhile (fun e => decide (e.1 < c)) = es.dropWhile (fun e => decide (e.1 < c)) := by simp [List.dropWhile_cons, hx]
      rw [e1, e2, List.cons_append, List.map_cons, List.pairwise_cons]
      refine ⟨fun y hy => ?_, ih hi.2 (fun e he => hn e (by simp [he]))⟩
      obtain ⟨e, he, rfl⟩ := List.mem_map.1 hy
      rcases List.mem_append.1 he with he | he
      · exact hi.1 _ (List.mem_map.2 ⟨e, (List.takeWhile_sublist _).subset he, rfl⟩)
      · rcases List.mem_cons.1 he with rfl | he
        · exact hx
        · exact hi.1 _ (List.mem_map.2 ⟨e, (List.dropWhile_sublist _).subset he, rfl⟩)
    · have e1 : (x :: es).takeWhile (fun e => decide (e.1 < c)) = [] := by simp [List.takeWhile_cons, hx]
      have e2 : (x :: es).dropWhile (fun e => decide (e.1 < c)) = x :: es := by simp [List.dropWhile_cons, hx]
      have hxc := hn x (by simp)
      rw [e1, e2, List.nil_append, List.map_cons, List.map_cons, List.pairwise_cons, List.pairwise_cons]
      refine ⟨fun y hy => ?_, hi⟩
      rcases List.mem_cons.1 hy with rfl | hy
      · show c < x.1; omega
      · have := hi.1 y hy
        show c < y; omega
theorem okG'.acts {g : GameT} (h : okG' g) {k : Nat} (hk : k < g.1.length) {r : AskT} (hr : okA r) (h1 : r.2.2.1 ≠ 1) : okG' (actG g k r).1 := by
  have hek := h.ent _ (getD_mem (d := ent0) hk)
  have hflo : ∀ (e : EntT), rng e.2.1 0 3 → rng e.2.2.1 0 3 → sqr e < g.2.1.length := fun e a b => by rw [h.n16]; exact sqr_lt a b
  have hs := h.sum
  have hF : ∀ {e : EntT}, rng e.2.1 0 3 → rng e.2.2.1 0 3 → 0 ≤ g.2.1.getD (sqr e) 0 := fun a b => h.flo _ (getD_mem (hflo _ a b))
  have setE : ∀ (n : Nat) (e : EntT), n < g.1.length → e.1 = (g.1.getD n ent0).1 → rng e.2.1 0 3 → rng e.2.2.1 0 3 → rng e.2.2.2.1 0 3 → 0 ≤ e.2.2.2.2 → ∀ x ∈ g.1.set n e, rng x.1 1 4 ∧ rng x.2.1 0 3 ∧ rng x.2.2.1 0 3 ∧ rng x.2.2.2.1 0 3 ∧ 0 ≤ x.2.2.2.2 := by
    intro n e hn he a b c d x hx
    rcases set_mem hx with rfl | hx
    · exact ⟨by rw [he]; exact (h.ent _ (getD_mem hn)).1, a, b, c, d⟩
    · exact h.ent x hx
  unfold actG
  dsimp only
  split
  · split
    · rename_i hm
      refine ⟨setE k _ hk rfl hm.1 hm.2 hek.2.2.2.1 hek.2.2.2.2, inc_set h.inc _ _ hk rfl, h.flo, h.las, h.n16, h.n4, ?_⟩
      show goldS (g.1.set k (moveE (g.1.getD k ent0) r)) + g.2.1.sum = 20
      rw [goldS_set _ _ _ hk]
      unfold moveE; dsimp only; omega
    · exact h
  · split
    · split
      · exact h
      · rename_i hne
        have hlt := hflo _ hek.2.1 hek.2.2.1
        have hp := hF hek.2.1 hek.2.2.1
        refine ⟨setE k _ hk rfl hek.2.1 hek.2.2.1 hek.2.2.2.1 (by unfold entG; have := hek.2.2.2.2; show 0 ≤ _ + (1 : Int); omega), inc_set h.inc _ _ hk rfl, ?_, h.las, by simpa using h.n16, h.n4, ?_⟩
        · intro x hx
          rcases set_mem hx with rfl | hx
          · omega
          · exact h.flo x hx
        · show goldS (g.1.set k _) + (g.2.1.set _ _).sum = 20
          rw [goldS_set _ _ _ hk, sum_set _ _ _ hlt]
          unfold entG; dsimp only; omega
    · split
      · exact h
      · rename_i n hn
        have hnl := figI_lt hn
        have hen := h.ent _ (getD_mem (d := ent0) hnl)
        unfold other
        dsimp only
        split
        · exact h
        · rename_i hnk
          have hne : n ≠ k := fun e => hnk (.inl e)
          split
          · split
            · exact h
            · rename_i hop hge
              have hy : rng r.2.2.2.2 1 9 := by
                obtain ⟨_, _, hr⟩ := hr
                rcases hr with ⟨a, _⟩ | ⟨a, _⟩ | ⟨a, _⟩ | ⟨_, _, a⟩
                · omega
                · omega
                · omega
                · exact a
              have hk2 : k < (g.1.set n (entG (g.1.getD n ent0) r.2.2.2.2)).length := by simpa using hk
              have hgk : (g.1.set n (entG (g.1.getD n ent0) r.2.2.2.2)).getD k ent0 = g.1.getD k ent0 := by
                simp [List.getD, List.getElem?_set_ne hne]
              have hS := setE n (entG (g.1.getD n ent0) r.2.2.2.2) hnl rfl hen.2.1 hen.2.2.1 hen.2.2.2.1 (by unfold entG; dsimp only; have := hen.2.2.2.2; unfold rng at hy; omega)
              refine ⟨?_, ?_, h.flo, h.las, h.n16, h.n4, ?_⟩
              · intro x hx
                rcases set_mem hx with rfl | hx
                · exact ⟨hek.1, hek.2.1, hek.2.2.1, hek.2.2.2.1, by unfold entG; dsimp only; omega⟩
                · exact hS x hx
              · show (List.map _ ((g.1.set n _).set k _)).Pairwise _
                exact inc_set (inc_set h.inc n (entG (g.1.getD n ent0) r.2.2.2.2) hnl rfl) k _ hk2 (by rw [hgk]; rfl)
              · show goldS ((g.1.set n _).set k _) + _ = 20
                rw [goldS_set _ _ _ hk2, hgk, goldS_set _ _ _ hnl]
                unfold entG; dsimp only; omega
          · split
            · have hlt := hflo _ hen.2.1 hen.2.2.1
              have hp := hF hen.2.1 hen.2.2.1
              refine ⟨fun x hx => h.ent x ((List.eraseIdx_sublist _ _).subset hx), ?_, ?_, h.las, by simpa using h.n16, h.n4, ?_⟩
              · exact h.inc.sublist ((List.eraseIdx_sublist _ _).map _)
              · intro x hx
                rcases set_mem hx with rfl | hx
                · have := hen.2.2.2.2; omega
                · exact h.flo x hx
              · show goldS (g.1.eraseIdx n) + (g.2.1.set _ _).sum = 20
                rw [goldS_erase _ _ hnl, sum_set _ _ _ hlt]
                omega
            · rename_i hlife
              refine ⟨setE n _ hnl rfl hen.2.1 hen.2.2.1 ⟨by unfold hitE; dsimp only; omega, by unfold hitE; have := hen.2.2.2.1.2; dsimp only; omega⟩ hen.2.2.2.2, inc_set h.inc _ _ hnl rfl, h.flo, h.las, h.n16, h.n4, ?_⟩
              show goldS (g.1.set n _) + _ = 20
              rw [goldS_set _ _ _ hnl]
              unfold hitE; dsimp only; omega
theorem okG.doing {g : GameT} (h : okG g) {r : AskT} (hr : okNA r) : okG (doG g r).1 := by
  apply okG'.full
  have h := h.weak
  unfold doG
  split
  · exact h
  · rename_i hne
    have hr : okA r := hr.resolve_left hne
    split
    · exact h
    · have hl : okG' (lastG g r) := ⟨h.ent, h.inc, h.flo, by
        intro x hx
        rcases set_mem hx with rfl | hx
        · exact ⟨by have := hr.2.1.1; omega, hr.2.1.2⟩
        · exact h.las x hx, h.n16, by simpa [lastG] using h.n4, h.sum⟩
      unfold behG
      split
      · rename_i hnone
        split
        · refine ⟨?_, joinE_inc hl.inc (figI_none hnone), hl.flo, hl.las, hl.n16, hl.n4, ?_⟩
          · intro x hx
            unfold joinE at hx
            rcases List.mem_append.1 hx with hx | hx
            · exact hl.ent x ((List.takeWhile_sublist _).subset hx)
            · rcases List.mem_cons.1 hx with rfl | hx
              · obtain ⟨⟨a, b⟩, _⟩ := hr
                refine ⟨⟨a, b⟩, ?_, ?_, ?_, ?_⟩ <;> simp only [rng] <;> omega
              · exact hl.ent x ((List.dropWhile_sublist _).subset hx)
          · show goldS (joinE _ _) + _ = 20
            rw [goldS_join]; exact hl.sum
        · exact hl
      · rename_i k hk
        split
        · exact hl
        · rename_i hop
          exact hl.acts (figI_lt hk) hr hop
theorem newG_ok : okG newG := by
  refine ⟨by simp [newG], by simp [newG], ?_, ?_, rfl, rfl, by decide⟩
  · intro x hx; simp [newG] at hx; unfold rng; omega
  · intro x hx; simp [newG] at hx; unfold rng; omega
theorem okG.folding : ∀ {rs : List AskT} {g : GameT}, okG g → (∀ r ∈ rs, okNA r) → okG (foldG g rs)
  | [], g, h, _ => h
  | r :: rs, g, h, hr => okG.folding (g := (doG g r).1) (okG.doing h (hr r (List.mem_cons_self ..))) (fun x hx => hr x (List.mem_cons_of_mem _ hx))
end Go.Proofs.YtajmfonepnkofaaDoor
