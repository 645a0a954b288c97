/-
  The plain laws of the queue: what rises keeps a heap; the first of a heap is ahead; what comes till a time comes in order; sorting looks at what is there alone.
-/
import Derived.Test.YtaklfalkpkifmaaQT
import Derived.Test.YtaklfalkpkifmaaQU
namespace Go.Proofs.Ytaklfalkpkifmaa
open Go.RowKit Rg
set_option linter.unusedVariables false

theorem irrefl_T (a : Tm) : ltT a a = false := by
  have : ¬ ltT a a = true := by rw [ltT_iff]; omega
  simpa using this
theorem trans_T {a b c : Tm} (h1 : ltT a b = true) (h2 : ltT b c = true) : ltT a c = true := by
  rw [ltT_iff] at h1 h2 ⊢; omega
theorem eq_T {a b : Tm} (h1 : ltT a b = false) (h2 : ltT b a = false) : a = b := by
  have g1 : ¬ ltT a b = true := by simp [h1]
  have g2 : ¬ ltT b a = true := by simp [h2]
  rw [ltT_iff] at g1 g2
  obtain ⟨a1, a2, a3⟩ := a
  obtain ⟨b1, b2, b3⟩ := b
  simp only at g1 g2
  have e1 : a1 = b1 := by omega
  have e2 : a2 = b2 := by omega
  have e3 : a3 = b3 := by omega
  rw [e1, e2, e3]
theorem lt_of_ne_T {a b : Tm} (h : ltT b a = false) (hne : a ≠ b) : ltT a b = true := by
  cases h2 : ltT a b
  · exact absurd (eq_T h2 h) hne
  · rfl
theorem le_fst_T {a b : Tm} (h : ltT b a = false) : a.1 ≤ b.1 := by
  have g1 : ¬ ltT b a = true := by simp [h]
  rw [ltT_iff] at g1
  omega

/-- A heap but what stands at k. -/
def UpBut (k : Nat) (ys : List Tm) : Prop :=
  (∀ j (h : j < ys.length), 0 < j → ¬ j = k → ltT ys[j] (ys[(j - 1) / 2]'(by omega)) = false) ∧
  (0 < k → ∀ j (h : j < ys.length) (h0 : 0 < j) (hp : (j - 1) / 2 = k), ltT ys[j] (ys[(k - 1) / 2]'(by omega)) = false)
theorem heap_rise (m : Nat) : ∀ (k : Nat) (ys : List Tm), k = m → k < ys.length → UpBut k ys → Heap (riseAt k ys) := by
  induction m using Nat.strongRecOn with
  | _ m ih =>
    intro k ys hm hk hU
    by_cases h0 : 0 < k
    · have hp : (k - 1) / 2 < ys.length := by omega
      cases hl : ltT ys[k] (ys[(k - 1) / 2]'hp)
      · rw [riseAt_stop hk hl]
        intro j hj g0
        by_cases c : j = k
        · subst c; exact hl
        · exact hU.1 j hj g0 c
      · rw [riseAt_step h0 hk hl]
        refine ih ((k - 1) / 2) (by omega) _ _ rfl (by rw [swap_len]; omega) ⟨fun j hj g0 hne => ?_, fun g0 j hj j0 hpj => ?_⟩
        · rw [swap_len] at hj
          rw [swap_get, swap_get]
          by_cases c1 : k = j
          · subst c1
            have e1 : ¬ (k - 1) / 2 = k := by omega
            simp only [e1, if_false, if_true]
            exact asymm_T hl
          · have c2 : ¬ (k - 1) / 2 = j := fun e => hne e.symm
            by_cases c3 : (j - 1) / 2 = (k - 1) / 2
            · simp only [c1, c2, if_false, c3, if_true]
              have g := hU.1 j hj g0 (fun e => c1 e.symm)
              simp only [c3] at g
              exact le_trans_T (asymm_T hl) g
            · by_cases c4 : (j - 1) / 2 = k
              · have e1 : ¬ (k - 1) / 2 = k := by omega
                simp only [c1, c2, if_false, c4, if_true, e1]
                exact hU.2 h0 j hj g0 c4
              · have e1 : ¬ (k - 1) / 2 = (j - 1) / 2 := fun e => c3 e.symm
                have e2 : ¬ k = (j - 1) / 2 := fun e => c4 e.symm
                simp only [c1, c2, if_false, e1, e2]
                exact hU.1 j hj g0 (fun e => c1 e.symm)
        · rw [swap_len] at hj
          rw [swap_get, swap_get]
          have e1 : ¬ (k - 1) / 2 = ((k - 1) / 2 - 1) / 2 := by omega
          have e2 : ¬ k = ((k - 1) / 2 - 1) / 2 := by omega
          have gp := hU.1 ((k - 1) / 2) hp g0 (by omega)
          by_cases c1 : k = j
          · subst c1
            have e3 : ¬ (k - 1) / 2 = k := by omega
            simp only [e1, e2, e3, if_false, if_true]
            exact gp
          · have e3 : ¬ (k - 1) / 2 = j := by omega
            simp only [e1, e2, e3, c1, if_false]
            have g := hU.1 j hj j0 (fun e => c1 e.symm)
            simp only [hpj] at g
            exact le_trans_T gp g
    · rw [riseAt_zero h0]
      intro j hj g0
      exact hU.1 j hj g0 (by omega)

theorem swap_mem' {ys : List Tm} {i k : Nat} (hi : i < ys.length) (hk : k < ys.length) {x : Tm} (hx : x ∈ ys) : x ∈ swap ys i k hi hk := by
  obtain ⟨j, hj, rfl⟩ := List.mem_iff_getElem.1 hx
  by_cases c1 : j = i
  · subst c1
    refine List.mem_iff_getElem.2 ⟨k, by rw [swap_len]; exact hk, ?_⟩
    rw [swap_get]; simp
  · by_cases c2 : j = k
    · subst c2
      refine List.mem_iff_getElem.2 ⟨i, by rw [swap_len]; exact hi, ?_⟩
      rw [swap_get]
      have e : ¬ j = i := c1
      simp only [e, if_false, if_true]
    · refine List.mem_iff_getElem.2 ⟨j, by rw [swap_len]; exact hj, ?_⟩
      rw [swap_get]
      have e1 : ¬ k = j := fun e => c2 e.symm
      have e2 : ¬ i = j := fun e => c1 e.symm
      simp only [e1, e2, if_false]
theorem rise_both (m : Nat) : ∀ (k : Nat) (ys : List Tm), k = m → k < ys.length → (ys.Nodup → (riseAt k ys).Nodup) ∧ (∀ x, x ∈ riseAt k ys ↔ x ∈ ys) := by
  induction m using Nat.strongRecOn with
  | _ m ih =>
    intro k ys hm hk
    by_cases h0 : 0 < k
    · have hp : (k - 1) / 2 < ys.length := by omega
      cases hl : ltT ys[k] (ys[(k - 1) / 2]'hp)
      · rw [riseAt_stop hk hl]
        exact ⟨id, fun _ => Iff.rfl⟩
      · rw [riseAt_step h0 hk hl]
        obtain ⟨h1, h2⟩ := ih ((k - 1) / 2) (by omega) _ (swap ys k ((k - 1) / 2) hk hp) rfl (by rw [swap_len]; omega)
        exact ⟨fun h => h1 (swap_nodup hk hp h), fun x => (h2 x).trans ⟨fun h => swap_mem hk hp h, fun h => swap_mem' hk hp h⟩⟩
    · rw [riseAt_zero h0]
      exact ⟨id, fun _ => Iff.rfl⟩
theorem sink_mem (m : Nat) : ∀ (i : Nat) (ys : List Tm), ys.length - i = m → ∀ x ∈ ys, x ∈ sinkAt i ys := by
  induction m using Nat.strongRecOn with
  | _ m ih =>
    intro i ys hm
    by_cases h : 2 * i + 1 < ys.length
    · have hk := kid_lt h
      have hg := kid_gt i ys
      have hi : i < ys.length := by omega
      cases hl : ltT (ys[kid i ys]'hk) ys[i]
      · rw [sinkAt_stop h rfl hl]
        exact fun _ h => h
      · rw [sinkAt_step h rfl hl]
        have h2 := ih (ys.length - kid i ys) (by omega) (kid i ys) (swap ys i (kid i ys) hi hk) (by rw [swap_len])
        exact fun x hx => h2 x (swap_mem' hi hk hx)
    · rw [sinkAt_end h]
      exact fun _ h => h

/-- What 'QueueAdd' leaves. -/
theorem nodup_app {xs : List Tm} {t : Tm} (h : xs.Nodup) (ht : ¬ t ∈ xs) : (xs ++ [t]).Nodup := by
  refine List.nodup_append.2 ⟨h, by simp, fun a ha b hb => ?_⟩
  simp at hb
  subst hb
  exact fun e => ht (e ▸ ha)
theorem okQ_rise {xs : List Tm} {t : Tm} (h : okQ xs) (ht : okT t = true) (hn : ¬ t ∈ xs) (hl : xs.length < 20) : okQ (riseAt xs.length (xs ++ [t])) := by
  obtain ⟨h1, h2, h3, h4⟩ := (okQ_iff xs).1 h
  have hk : xs.length < (xs ++ [t]).length := by simp
  obtain ⟨b1, b2⟩ := rise_both _ xs.length (xs ++ [t]) rfl hk
  refine (okQ_iff _).2 ⟨fun x hx => ?_, b1 (nodup_app h2 hn), heap_rise _ _ _ rfl hk ⟨fun j hj g0 hne => ?_, fun g0 j hj j0 hp => ?_⟩, by rw [riseAt_len]; simp; omega⟩
  · rcases List.mem_append.1 ((b2 x).1 hx) with hx | hx
    · exact h1 x hx
    · simp at hx; subst hx; exact ht
  · simp at hj
    rw [List.getElem_append_left (by omega), List.getElem_append_left (by omega)]
    exact h3 j (by omega) g0
  · simp at hj
    omega
theorem addL_case (xs : List Tm) (t : Tm) : (addL xs t).2 = false ∧ (¬ okQ xs ∨ (addL xs t).1 = xs) ∨ (addL xs t).2 = true ∧ okQ xs ∧ okT t = true ∧ ¬ t ∈ xs ∧ xs.length < 20 ∧ (addL xs t).1 = riseAt xs.length (xs ++ [t]) := by
  unfold addL
  split
  · rename_i h1
    split
    · rename_i h2
      exact .inr ⟨rfl, h1, h2.1, h2.2.1, h2.2.2, rfl⟩
    · exact .inl ⟨rfl, .inr rfl⟩
  · rename_i h1
    exact .inl ⟨rfl, .inl h1⟩
theorem addL_ok {xs : List Tm} {t : Tm} (h : okQ xs) (ht : okT t = true) (hn : ¬ t ∈ xs) (hl : xs.length < 20) : addL xs t = (riseAt xs.length (xs ++ [t]), true) := by
  unfold addL; rw [if_pos h, if_pos ⟨ht, hn, hl⟩]
theorem addL_mem {xs : List Tm} {t x : Tm} (h : (addL xs t).2 = true) : x ∈ (addL xs t).1 ↔ x ∈ xs ∨ x = t := by
  rcases addL_case xs t with ⟨h1, _⟩ | ⟨_, _, _, _, _, h2⟩
  · rw [h1] at h; cases h
  · rw [h2, (rise_both _ xs.length (xs ++ [t]) rfl (by simp)).2 x]
    simp
theorem addL_okQ {xs : List Tm} {t : Tm} (h : (addL xs t).2 = true) : okQ (addL xs t).1 := by
  rcases addL_case xs t with ⟨h1, _⟩ | ⟨_, g1, g2, g3, g4, h2⟩
  · rw [h1] at h; cases h
  · rw [h2]; exact okQ_rise g1 g2 g3 g4
theorem addL_len1 {xs : List Tm} {t : Tm} (h : (addL xs t).2 = true) : (addL xs t).1.length = xs.length + 1 := by
  rcases addL_case xs t with ⟨h1, _⟩ | ⟨_, g1, g2, g3, g4, h2⟩
  · rw [h1] at h; cases h
  · rw [h2, riseAt_len]; simp

/-! The first. -/
theorem heap_first {q : List Tm} (h : Heap q) (m : Nat) : ∀ (j : Nat) (hj : j < q.length), j = m → ltT q[j] (q[0]'(by omega)) = false := by
  induction m using Nat.strongRecOn with
  | _ m ih =>
    intro j hj hm
    by_cases h0 : 0 < j
    · exact le_trans_T (ih ((j - 1) / 2) (by omega) ((j - 1) / 2) (by omega) rfl) (h j hj h0)
    · obtain rfl : j = 0 := by omega
      exact irrefl_T _
theorem first_le {q : List Tm} (h : okQ q) (h0 : 0 < q.length) {x : Tm} (hx : x ∈ q) : ltT x q[0] = false := by
  obtain ⟨j, hj, rfl⟩ := List.mem_iff_getElem.1 hx
  exact heap_first ((okQ_iff q).1 h).2.2.1 j j hj rfl
theorem popL_mem {q : List Tm} (h : okQ q) (h0 : 0 < q.length) (x : Tm) : x ∈ popL q h0 ↔ x ∈ q ∧ x ≠ q[0] := by
  have hn := ((okQ_iff q).1 h).2.1
  have hb : x ∈ popL q h0 ↔ x ∈ baseL q h0 := ⟨(sink_both _ 0 (baseL q h0) rfl).2 x, sink_mem _ 0 (baseL q h0) rfl x⟩
  rw [hb]
  constructor
  · intro hx
    obtain ⟨j, hj, rfl⟩ := List.mem_iff_getElem.1 hx
    rw [baseL_len] at hj
    rw [baseL_get]
    split
    · exact ⟨List.getElem_mem _, fun e => by have := nodup_inj hn (by omega) h0 e; omega⟩
    · exact ⟨List.getElem_mem _, fun e => by have := nodup_inj hn (by omega) h0 e; omega⟩
  · rintro ⟨hx, hne⟩
    obtain ⟨j, hj, rfl⟩ := List.mem_iff_getElem.1 hx
    have hj0 : 0 < j := Nat.pos_of_ne_zero (by rintro rfl; exact hne rfl)
    by_cases hl : j = q.length - 1
    · refine List.mem_iff_getElem.2 ⟨0, by rw [baseL_len]; omega, ?_⟩
      rw [baseL_get]
      simp [hl]
    · refine List.mem_iff_getElem.2 ⟨j, by rw [baseL_len]; omega, ?_⟩
      rw [baseL_get]
      have e : ¬ 0 = j := by omega
      simp only [e, if_false]
theorem first_lt {q : List Tm} (h : okQ q) (h0 : 0 < q.length) {x : Tm} (hx : x ∈ popL q h0) : ltT q[0] x = true := by
  obtain ⟨h1, h2⟩ := (popL_mem h h0 x).1 hx
  exact lt_of_ne_T (first_le h h0 h1) (fun e => h2 e.symm)
/-- Added again, the first is the first. -/
theorem first_back {q : List Tm} (h : okQ q) (h0 : 0 < q.length) : addL (popL q h0) q[0] = (riseAt (popL q h0).length (popL q h0 ++ [q[0]]), true) ∧ ∀ hz : 0 < (riseAt (popL q h0).length (popL q h0 ++ [q[0]])).length, (riseAt (popL q h0).length (popL q h0 ++ [q[0]]))[0] = q[0] := by
  obtain ⟨h1, h2, h3, h4⟩ := (okQ_iff q).1 h
  have hn : ¬ q[0] ∈ popL q h0 := fun hm => ((popL_mem h h0 _).1 hm).2 rfl
  have hl : (popL q h0).length < 20 := by rw [popL_len]; omega
  have ht : okT q[0] = true := h1 _ (List.getElem_mem _)
  refine ⟨addL_ok (okQ_pop h h0) ht hn hl, fun hz => ?_⟩
  have hok := okQ_rise (okQ_pop h h0) ht hn hl
  have hmem := (rise_both _ (popL q h0).length (popL q h0 ++ [q[0]]) rfl (by simp)).2
  have hle := first_le hok hz ((hmem q[0]).2 (by simp))
  have hm0 := (hmem _).1 (List.getElem_mem hz)
  rcases List.mem_append.1 hm0 with hm | hm
  · rw [first_lt h h0 hm] at hle; cases hle
  · simpa using hm

/-! What comes till a time. -/
def SortedT (xs : List Tm) : Prop := xs.Pairwise fun a b => ltT a b = true
theorem till_law (at_ : Int) (m : Nat) : ∀ (xs done : List Tm), xs.length = m → okQ xs → SortedT done → (∀ x ∈ done, x.1 ≤ at_) → (∀ x ∈ done, ∀ y ∈ xs, ltT x y = true) →
    okQ (tillL at_ xs done).1 ∧ (∀ x ∈ (tillL at_ xs done).1, ¬ x.1 ≤ at_) ∧ SortedT (tillL at_ xs done).2 ∧ (∀ x ∈ (tillL at_ xs done).2, x.1 ≤ at_) ∧ (∀ x, x ∈ (tillL at_ xs done).1 ∨ x ∈ (tillL at_ xs done).2 ↔ x ∈ xs ∨ x ∈ done) := by
  induction m using Nat.strongRecOn with
  | _ m ih =>
    intro xs done hm hok hs hd hlt
    by_cases h0 : 0 < xs.length
    · by_cases hle : xs[0].1 ≤ at_
      · rw [tillL_step h0 hle]
        obtain ⟨r1, r2, r3, r4, r5⟩ := ih (xs.length - 1) (by omega) (popL xs h0) (done ++ [xs[0]]) (popL_len xs h0) (okQ_pop hok h0) (by
          refine List.pairwise_append.2 ⟨hs, by simp, fun a ha b hb => ?_⟩
          simp at hb; subst hb
          exact hlt a ha _ (List.getElem_mem _)) (fun x hx => by
          rcases List.mem_append.1 hx with hx | hx
          · exact hd x hx
          · simp at hx; subst hx; exact hle) (fun x hx y hy => by
          rcases List.mem_append.1 hx with hx | hx
          · exact hlt x hx y ((popL_mem hok h0 y).1 hy).1
          · simp at hx; subst hx; exact first_lt hok h0 hy)
        refine ⟨r1, r2, r3, r4, fun x => (r5 x).trans ?_⟩
        rw [popL_mem hok h0 x]
        constructor
        · rintro (⟨h, _⟩ | h)
          · exact .inl h
          · rcases List.mem_append.1 h with h | h
            · exact .inr h
            · simp at h; subst h; exact .inl (List.getElem_mem _)
        · rintro (h | h)
          · by_cases e : x = xs[0]
            · exact .inr (List.mem_append.2 (.inr (by simp [e])))
            · exact .inl ⟨h, e⟩
          · exact .inr (List.mem_append.2 (.inl h))
      · rw [tillL_stop h0 hle]
        exact ⟨hok, fun x hx => by have := le_fst_T (first_le hok h0 hx); omega, hs, hd, fun x => Iff.rfl⟩
    · rw [tillL_end h0]
      have : xs = [] := List.eq_nil_of_length_eq_zero (by omega)
      subst this
      exact ⟨hok, by simp, hs, hd, fun x => Iff.rfl⟩
theorem tillQ_law (at_ : Int) {xs : List Tm} (h : okQ xs) : okQ (tillQ at_ xs).1 ∧ (∀ x ∈ (tillQ at_ xs).1, ¬ x.1 ≤ at_) ∧ SortedT (tillQ at_ xs).2 ∧ (∀ x ∈ (tillQ at_ xs).2, x.1 ≤ at_) ∧ (∀ x, x ∈ (tillQ at_ xs).1 ∨ x ∈ (tillQ at_ xs).2 ↔ x ∈ xs) ∧ (tillQ at_ xs).1.length + (tillQ at_ xs).2.length = xs.length := by
  have e : tillQ at_ xs = tillL at_ xs [] := by rw [tillQ, if_pos h]
  rw [e]
  obtain ⟨r1, r2, r3, r4, r5⟩ := till_law at_ _ xs [] rfl h (by simp [SortedT]) (by simp) (by simp)
  have := tillL_len at_ _ xs [] rfl
  exact ⟨r1, r2, r3, r4, fun x => (r5 x).trans (by simp), by simpa using this⟩

/-! Sorting. -/
def canSort (ts : List Tm) : Prop := (∀ x ∈ ts, okT x = true) ∧ ts.Nodup ∧ ts.length ≤ 20
theorem addAll_some (ts : List Tm) : ∀ q r : List Tm, okQ q → addAll q ts = some r → okQ r ∧ (∀ x, x ∈ r ↔ x ∈ q ∨ x ∈ ts) ∧ r.length = q.length + ts.length ∧ (∀ x ∈ ts, okT x = true) ∧ ts.Nodup ∧ (∀ x ∈ ts, ¬ x ∈ q) ∧ r.length ≤ 20 := by
  induction ts with
  | nil =>
    intro q r hq h
    simp [addAll] at h
    subst h
    exact ⟨hq, by simp, by simp, by simp, by simp, by simp, hq.2⟩
  | cons t ts ih =>
    intro q r hq h
    rw [addAll] at h
    split at h
    · rename_i h2
      obtain ⟨r1, r2, r3, r4, r5, r6, r7⟩ := ih _ r (addL_okQ h2) h
      rcases addL_case q t with ⟨h1, _⟩ | ⟨_, g1, g2, g3, g4, h5⟩
      · rw [h1] at h2; cases h2
      · refine ⟨r1, fun x => ?_, by rw [r3, addL_len1 h2]; simp; omega, fun x hx => ?_, ?_, fun x hx => ?_, r7⟩
        · rw [r2, addL_mem h2]
          simp only [List.mem_cons]
          constructor
          · rintro ((h | h) | h)
            · exact .inl h
            · exact .inr (.inl h)
            · exact .inr (.inr h)
          · rintro (h | h | h)
            · exact .inl (.inl h)
            · exact .inl (.inr h)
            · exact .inr h
        · rcases List.mem_cons.1 hx with rfl | hx
          · exact g2
          · exact r4 x hx
        · refine List.nodup_cons.2 ⟨fun hm => r6 t hm ((addL_mem h2).2 (.inr rfl)), r5⟩
        · rcases List.mem_cons.1 hx with rfl | hx
          · exact g3
          · exact fun hm => r6 x hx ((addL_mem h2).2 (.inl hm))
    · cases h
theorem addAll_can (ts : List Tm) : ∀ q : List Tm, okQ q → (∀ x ∈ ts, okT x = true) → ts.Nodup → (∀ x ∈ ts, ¬ x ∈ q) → q.length + ts.length ≤ 20 → ∃ r, addAll q ts = some r := by
  induction ts with
  | nil => intro q _ _ _ _ _; exact ⟨q, rfl⟩
  | cons t ts ih =>
    intro q hq h1 h2 h3 h4
    simp only [List.length_cons] at h4
    have ha := addL_ok hq (h1 t (by simp)) (h3 t (by simp)) (by omega)
    have ha2 : (addL q t).2 = true := by rw [ha]
    rw [addAll, if_pos ha2]
    have hnd := List.nodup_cons.1 h2
    refine ih _ (addL_okQ ha2) (fun x hx => h1 x (by simp [hx])) hnd.2 (fun x hx hm => ?_) (by rw [addL_len1 ha2]; omega)
    rcases (addL_mem ha2).1 hm with hm | rfl
    · exact h3 x (by simp [hx]) hm
    · exact hnd.1 hx
theorem okQ_nil : okQ [] := ⟨fun i h => absurd h (by simp), by simp⟩
theorem sort_can {ts : List Tm} (h : canSort ts) : SortedT (sortL ts) ∧ (∀ x, x ∈ sortL ts ↔ x ∈ ts) ∧ (sortL ts).length = ts.length := by
  obtain ⟨h1, h2, h3⟩ := h
  obtain ⟨r, hr⟩ := addAll_can ts [] okQ_nil h1 h2 (by simp) (by simpa using h3)
  obtain ⟨g1, g2, g3, _⟩ := addAll_some ts [] r okQ_nil hr
  have e : sortL ts = (tillQ 999 r).2 := by unfold sortL; rw [hr]
  rw [e]
  obtain ⟨r1, r2, r3, r4, r5, r6⟩ := tillQ_law 999 g1
  have hno : ∀ x, ¬ x ∈ (tillQ 999 r).1 := fun x hx => by
    have h5 := r2 x hx
    have h6 := ((okQ_iff r).1 g1).1 x ((r5 x).1 (.inl hx))
    simp [okT, inB] at h6
    omega
  have hnil : (tillQ 999 r).1 = [] := List.eq_nil_iff_forall_not_mem.2 hno
  refine ⟨r3, fun x => ?_, ?_⟩
  · have := (r5 x).trans (g2 x)
    rw [hnil] at this
    simpa using this
  · rw [hnil] at r6
    simp at r6 g3
    omega
theorem sort_cases (ts : List Tm) : canSort ts ∨ sortL ts = [] := by
  cases hr : addAll [] ts with
  | none => exact .inr (by unfold sortL; rw [hr])
  | some r =>
    obtain ⟨_, _, g3, g4, g5, _, g7⟩ := addAll_some ts [] r okQ_nil hr
    exact .inl ⟨g4, g5, by simp at g3; omega⟩
theorem sorted_uniq : ∀ xs ys : List Tm, SortedT xs → SortedT ys → (∀ x, x ∈ xs ↔ x ∈ ys) → xs = ys
  | [], [], _, _, _ => rfl
  | [], y :: ys, _, _, h => by have := (h y).2 (by simp); simp at this
  | x :: xs, [], _, _, h => by have := (h x).1 (by simp); simp at this
  | x :: xs, y :: ys, hx, hy, h => by
    obtain ⟨x1, x2⟩ := List.pairwise_cons.1 hx
    obtain ⟨y1, y2⟩ := List.pairwise_cons.1 hy
    have e : x = y := by
      rcases List.mem_cons.1 ((h x).1 (by simp)) with e | hm
      · exact e
      · rcases List.mem_cons.1 ((h y).2 (by simp)) with e | hm2
        · exact e.symm
        · have a := asymm_T (y1 x hm)
          rw [x1 y hm2] at a
          cases a
    subst e
    have ne : ∀ {zs : List Tm}, (∀ z ∈ zs, ltT x z = true) → ¬ x ∈ zs := fun hz hm => by
      have := hz x hm
      rw [irrefl_T] at this
      cases this
    have : xs = ys := sorted_uniq xs ys x2 y2 fun z => by
      constructor
      · intro hz
        rcases List.mem_cons.1 ((h z).1 (by simp [hz])) with rfl | h2
        · exact absurd hz (ne x1)
        · exact h2
      · intro hz
        rcases List.mem_cons.1 ((h z).2 (by simp [hz])) with rfl | h2
        · exact absurd hz (ne y1)
        · exact h2
    rw [this]
theorem sorted_nodup {xs : List Tm} (h : SortedT xs) : xs.Nodup := by
  refine List.Pairwise.imp (fun {a b} hab => ?_) h
  rintro rfl
  rw [irrefl_T] at hab
  cases hab
theorem sort_rev {ts : List Tm} (h : canSort ts) : sortL ts.reverse = sortL ts := by
  obtain ⟨h1, h2, h3⟩ := h
  obtain ⟨a1, a2, _⟩ := sort_can ⟨h1, h2, h3⟩
  obtain ⟨b1, b2, _⟩ := sort_can (ts := ts.reverse) ⟨fun x hx => h1 x (by simpa using hx), List.pairwise_reverse.2 (h2.imp Ne.symm), by simpa using h3⟩
  exact sorted_uniq _ _ b1 a1 fun x => by rw [b2, a2]; simp
theorem sort_again {ts : List Tm} (h : canSort ts) : sortL (sortL ts) = sortL ts := by
  obtain ⟨h1, h2, h3⟩ := h
  obtain ⟨a1, a2, a3⟩ := sort_can ⟨h1, h2, h3⟩
  obtain ⟨b1, b2, _⟩ := sort_can (ts := sortL ts) ⟨fun x hx => h1 x ((a2 x).1 hx), sorted_nodup a1, by omega⟩
  exact sorted_uniq _ _ b1 a1 fun x => b2 x
end Go.Proofs.Ytaklfalkpkifmaa
