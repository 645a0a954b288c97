/-
  The plain law of the queue: what 'pop' leaves of a queue that is ok is ok.
-/
import Derived.Test.YtaklfalkpkifmaaQH
namespace Go.Proofs.Ytaklfalkpkifmaa
open Go.RowKit Rg
set_option linter.unusedVariables false

theorem ltT_iff (a b : Tm) : ltT a b = true ↔ a.1 < b.1 ∨ a.1 = b.1 ∧ (a.2.1 < b.2.1 ∨ a.2.1 = b.2.1 ∧ a.2.2 < b.2.2) := by
  simp only [ltT, decide_eq_true_eq]
theorem le_trans_T {a b c : Tm} (h1 : ltT b a = false) (h2 : ltT c b = false) : ltT c a = false := by
  have g1 : ¬ ltT b a = true := by simp [h1]
  have g2 : ¬ ltT c b = true := by simp [h2]
  have : ¬ ltT c a = true := by
    rw [ltT_iff] at g1 g2 ⊢
    omega
  simpa using this
theorem asymm_T {a b : Tm} (h : ltT a b = true) : ltT b a = false := by
  have : ¬ ltT b a = true := by
    rw [ltT_iff] at h ⊢
    omega
  simpa using this

theorem swap_get (ys : List Tm) (i k : Nat) (hi : i < ys.length) (hk : k < ys.length) (j : Nat) (hj : j < (swap ys i k hi hk).length) :
    (swap ys i k hi hk)[j] = if k = j then ys[i] else if i = j then ys[k] else ys[j]'(by rw [swap_len] at hj; exact hj) := by
  simp only [swap, List.getElem_set]

/-- A heap but at i. -/
def HeapBut (i : Nat) (ys : List Tm) : Prop :=
  (∀ j (h : j < ys.length), 0 < j → ¬ (j - 1) / 2 = i → ltT ys[j] (ys[(j - 1) / 2]'(by omega)) = false) ∧
  (0 < i → ∀ j (h : j < ys.length) (h0 : 0 < j) (hp : (j - 1) / 2 = i), ltT ys[j] (ys[(i - 1) / 2]'(by omega)) = false)
def Heap (ys : List Tm) : Prop := ∀ j (h : j < ys.length), 0 < j → ltT ys[j] (ys[(j - 1) / 2]'(by omega)) = false

theorem kid_min {i : Nat} {ys : List Tm} (h : 2 * i + 1 < ys.length) (j : Nat) (hj : j < ys.length) (h0 : 0 < j) (hp : (j - 1) / 2 = i) : ltT ys[j] (ys[kid i ys]'(kid_lt h)) = false := by
  have hself : ∀ a : Tm, ltT a a = false := fun a => by
    have : ¬ ltT a a = true := by rw [ltT_iff]; omega
    simpa using this
  have hj' : j = 2 * i + 1 ∨ j = 2 * i + 1 + 1 := by omega
  unfold kid
  split
  · rename_i h2
    split
    · rename_i h3
      rcases hj' with rfl | rfl
      · exact asymm_T h3
      · exact hself _
    · rename_i h3
      rcases hj' with rfl | rfl
      · exact hself _
      · simpa using h3
  · rename_i h2
    rcases hj' with rfl | rfl
    · exact hself _
    · omega
theorem kid_par {i : Nat} {ys : List Tm} : (kid i ys - 1) / 2 = i ∧ 0 < kid i ys := by
  unfold kid
  split
  · split <;> omega
  · omega

theorem heap_sink (m : Nat) : ∀ (i : Nat) (ys : List Tm), ys.length - i = m → HeapBut i ys → Heap (sinkAt i ys) := by
  induction m using Nat.strongRecOn with
  | _ m ih =>
    intro i ys hm hH
    by_cases h : 2 * i + 1 < ys.length
    · have hk := kid_lt h
      have hg := kid_gt i ys
      obtain ⟨hp, hp0⟩ := kid_par (i := i) (ys := ys)
      cases hl : ltT (ys[kid i ys]'hk) ys[i]
      · rw [sinkAt_stop h rfl hl]
        intro j hj h0
        by_cases hpi : (j - 1) / 2 = i
        · have := le_trans_T hl (kid_min h j hj h0 hpi)
          simpa only [hpi] using this
        · exact hH.1 j hj h0 hpi
      · rw [sinkAt_step h rfl hl]
        have hi : i < ys.length := by omega
        refine ih (ys.length - kid i ys) (by omega) (kid i ys) _ (by rw [swap_len]) ⟨fun j hj h0 hne => ?_, fun _ j hj h0 hpk => ?_⟩
        · rw [swap_len] at hj
          rw [swap_get, swap_get]
          by_cases c1 : kid i ys = j
          · subst c1
            have e1 : ¬ kid i ys = i := by omega
            simp only [if_true, hp, e1, if_false]
            exact asymm_T hl
          · by_cases c2 : i = j
            · subst c2
              have e1 : ¬ kid i ys = (i - 1) / 2 := by omega
              have e2 : ¬ i = (i - 1) / 2 := by omega
              simp only [c1, if_false, if_true, e1, e2]
              exact hH.2 h0 _ hk hp0 hp
            · by_cases c3 : (j - 1) / 2 = i
              · have e1 : ¬ kid i ys = i := by omega
                simp only [c1, c2, if_false, c3, e1, if_true]
                exact kid_min h j hj h0 c3
              · have e1 : ¬ kid i ys = (j - 1) / 2 := fun e => hne e.symm
                have e2 : ¬ i = (j - 1) / 2 := fun e => c3 e.symm
                simp only [c1, c2, if_false, e1, e2]
                exact hH.1 j hj h0 c3
        · rw [swap_len] at hj
          rw [swap_get, swap_get]
          have e1 : ¬ kid i ys = j := by omega
          have e2 : ¬ i = j := by omega
          have e3 : ¬ kid i ys = i := by omega
          simp only [e1, e2, if_false, hp, e3, if_true]
          have := hH.1 j hj h0 (by omega)
          simpa only [hpk] using this
    · rw [sinkAt_end h]
      intro j hj h0
      exact hH.1 j hj h0 (by omega)

theorem okQ_iff (q : List Tm) : okQ q ↔ (∀ x ∈ q, okT x = true) ∧ q.Nodup ∧ Heap q ∧ q.length ≤ 20 := by
  constructor
  · rintro ⟨h, hl⟩
    refine ⟨fun x hx => ?_, ?_, fun j hj h0 => ?_, hl⟩
    · obtain ⟨i, hi, rfl⟩ := List.mem_iff_getElem.1 hx
      obtain ⟨_, h1, _⟩ := h i hi
      exact h1
    · refine List.pairwise_iff_getElem.2 fun i j hi hj hij he => ?_
      obtain ⟨_, _, h2, _⟩ := h j hj
      exact h2 (List.mem_iff_getElem.2 ⟨i, by simp; omega, by simpa using he⟩)
    · obtain ⟨_, _, _, h3⟩ := h j hj
      exact h3 h0
  · rintro ⟨h1, h2, h3, hl⟩
    refine ⟨fun i hi => ⟨hi, h1 _ (List.getElem_mem _), fun hm => ?_, fun h0 => h3 i hi h0⟩, hl⟩
    obtain ⟨j, hj, he⟩ := List.mem_iff_getElem.1 hm
    simp at hj he
    exact List.pairwise_iff_getElem.1 h2 j i (by omega) hi (by omega) he

theorem nodup_inj {q : List Tm} (h : q.Nodup) {i j : Nat} (hi : i < q.length) (hj : j < q.length) (he : q[i] = q[j]) : i = j := by
  rcases Nat.lt_trichotomy i j with g | g | g
  · exact absurd he (List.pairwise_iff_getElem.1 h i j hi hj g)
  · exact g
  · exact absurd he.symm (List.pairwise_iff_getElem.1 h j i hj hi g)
theorem swap_nodup {ys : List Tm} {i k : Nat} (hi : i < ys.length) (hk : k < ys.length) (h : ys.Nodup) : (swap ys i k hi hk).Nodup := by
  refine List.pairwise_iff_getElem.2 fun a b ha hb hab he => ?_
  rw [swap_get, swap_get] at he
  rw [swap_len] at ha hb
  have := fun {x y : Nat} (hx : x < ys.length) (hy : y < ys.length) (e : ys[x] = ys[y]) => nodup_inj h hx hy e
  split at he <;> split at he
  all_goals try (split at he)
  all_goals try (split at he)
  all_goals (have e := this (by omega) (by omega) he; omega)
theorem swap_mem {ys : List Tm} {i k : Nat} (hi : i < ys.length) (hk : k < ys.length) {x : Tm} (hx : x ∈ swap ys i k hi hk) : x ∈ ys := by
  obtain ⟨j, hj, rfl⟩ := List.mem_iff_getElem.1 hx
  rw [swap_get]
  split
  · exact List.getElem_mem _
  · split
    · exact List.getElem_mem _
    · exact List.getElem_mem _
theorem sink_both (m : Nat) : ∀ (i : Nat) (ys : List Tm), ys.length - i = m → (ys.Nodup → (sinkAt i ys).Nodup) ∧ (∀ x ∈ sinkAt i ys, x ∈ ys) := by
  induction m using Nat.strongRecOn with
  | _ m ih =>
    intro i ys hm
    by_cases h : 2 * i + 1 < ys.length
    · have hk := kid_lt h
      have hg := kid_gt i ys
      have hi : i < ys.length := by omega
      cases hl : ltT (ys[kid i ys]'hk) ys[i]
      · rw [sinkAt_stop h rfl hl]
        exact ⟨id, fun _ h => h⟩
      · rw [sinkAt_step h rfl hl]
        obtain ⟨h1, h2⟩ := ih (ys.length - kid i ys) (by omega) (kid i ys) (swap ys i (kid i ys) hi hk) (by rw [swap_len])
        exact ⟨fun h => h1 (swap_nodup hi hk h), fun x hx => swap_mem hi hk (h2 x hx)⟩
    · rw [sinkAt_end h]
      exact ⟨id, fun _ h => h⟩
theorem sinkAt_len' (k : Nat) (ys : List Tm) : (sinkAt k ys).length = ys.length := by
  generalize hm : ys.length - k = m
  induction m using Nat.strongRecOn generalizing k ys with
  | _ m ih =>
    rw [sinkAt]
    split
    · rename_i h
      split
      · have h1 := kid_gt k ys
        have h2 := kid_lt h
        have h3 := ih (ys.length - kid k ys) (by omega) (kid k ys) (swap ys k (kid k ys) (by omega) h2) (by rw [swap_len])
        rw [h3, swap_len]
      · rfl
    · rfl
/-- What is left when the first is taken, ahead of the sinking. -/
def baseL (xs : List Tm) (h : 0 < xs.length) : List Tm := (xs.set 0 (xs[xs.length - 1]'(by omega))).take (xs.length - 1)
theorem baseL_len (xs : List Tm) (h : 0 < xs.length) : (baseL xs h).length = xs.length - 1 := by simp [baseL]
theorem baseL_get (xs : List Tm) (h : 0 < xs.length) (j : Nat) (hj : j < (baseL xs h).length) : (baseL xs h)[j] = if 0 = j then xs[xs.length - 1]'(by omega) else xs[j]'(by rw [baseL_len] at hj; omega) := by
  simp only [baseL, List.getElem_take, List.getElem_set]
theorem popL_len (xs : List Tm) (h : 0 < xs.length) : (popL xs h).length = xs.length - 1 := by
  show (sinkAt 0 (baseL xs h)).length = _
  rw [sinkAt_len', baseL_len]
theorem okQ_pop {xs : List Tm} (h : okQ xs) (h0 : 0 < xs.length) : okQ (popL xs h0) := by
  obtain ⟨h1, h2, h3, hl⟩ := (okQ_iff xs).1 h
  have hb : (baseL xs h0).Nodup := by
    refine List.pairwise_iff_getElem.2 fun a b ha hb hab he => ?_
    rw [baseL_get, baseL_get] at he
    rw [baseL_len] at ha hb
    split at he <;> split at he
    all_goals (have e := nodup_inj h2 (by omega) (by omega) he; omega)
  have hm : ∀ x ∈ baseL xs h0, x ∈ xs := fun x hx => by
    obtain ⟨j, hj, rfl⟩ := List.mem_iff_getElem.1 hx
    rw [baseL_get]
    split <;> exact List.getElem_mem _
  obtain ⟨s1, s2⟩ := sink_both _ 0 (baseL xs h0) rfl
  refine (okQ_iff _).2 ⟨fun x hx => h1 x (hm x (s2 x hx)), s1 hb, ?_, by rw [popL_len]; omega⟩
  refine heap_sink _ 0 (baseL xs h0) rfl ⟨fun j hj g0 hne => ?_, fun g => absurd g (by omega)⟩
  rw [baseL_get, baseL_get]
  rw [baseL_len] at hj
  have e1 : ¬ 0 = j := by omega
  have e2 : ¬ 0 = (j - 1) / 2 := fun e => hne e.symm
  simp only [e1, e2, if_false]
  exact h3 j (by omega) g0
end Go.Proofs.Ytaklfalkpkifmaa
