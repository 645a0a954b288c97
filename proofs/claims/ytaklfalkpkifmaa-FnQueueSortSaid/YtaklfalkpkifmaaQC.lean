/-
  Copies and searches over slices of timed things.
-/
import Derived.Test.YtaklfalkpkifmaaQB
import Derived.WalkSpells
import Derived.WalkLawsBesides
namespace Go.Proofs.Ytaklfalkpkifmaa
open Go.RowKit Rg
set_option linter.unusedVariables false

theorem ok_t (t : Tm) (w : World) : Calls Try.prog 36 #[.agg #[.int .i64 t.1, .int .i64 t.2.1, .int .i64 t.2.2]] w fun e w' => e = .returned (.bool (okT t)) ∧ Below w.heap.size w w' := ok_c _ _ _ w
theorem timedOk_t (t : Tm) (w : World) : Calls Try.prog 44 #[.agg #[.int .i64 t.1, .int .i64 t.2.1, .int .i64 t.2.2]] w fun e w' => e = .returned (.bool (okT t)) ∧ Below w.heap.size w w' := timedOk_c _ _ _ w
theorem less_t (t u : Tm) (w : World) : Calls Try.prog 50 #[.agg #[.int .i64 t.1, .int .i64 t.2.1, .int .i64 t.2.2], .agg #[.int .i64 u.1, .int .i64 u.2.1, .int .i64 u.2.2]] w fun e w' => e = .returned (.bool (ltT t u)) ∧ Below w.heap.size w w' := less_c _ _ _ _ _ _ w
theorem before_t (t u : Tm) (w : World) : Calls Try.prog 38 #[.agg #[.int .i64 t.1, .int .i64 t.2.1, .int .i64 t.2.2], .agg #[.int .i64 u.1, .int .i64 u.2.1, .int .i64 u.2.2]] w fun e w' => e = .returned (.bool (ltT t u)) ∧ Below w.heap.size w w' := before_c _ _ _ _ _ _ w

theorem own_empty {α : Type} (enc : α → List Value) (sz : Nat) (e : TypeId) (w : World) : Own enc sz e (w.alloc (.cells #[] e)) w.heap.size (.slice (some ⟨w.heap.size, 0, none⟩) 0 0) [] :=
  Own.of_row (xs := []) (cur := #[]) (Nat.le_refl _) (heap_alloc_new w _) (by simp) (by simp [maxLen]) (by simp) (by simp)

theorem clone1_c (A : Option Addr) (n c lo hi : Nat) (xs : List Tm) (w : World) (hn : n = xs.length) (hb : n ≤ 1048576) (hs : Sl encT 3 w lo hi A xs) (hhi : hi ≤ w.heap.size) :
    Calls Try.prog 55 #[.slice A n c] w fun e w' => ∃ v, e = .returned v ∧ Own encT 3 31 w' w.heap.size v xs ∧ Below w.heap.size w w' := by
  have hn' := hide hn
  clear hn
  cases A with
  | none =>
    have hx : xs = [] := by
      by_cases h : xs = []
      · exact h
      · obtain ⟨_, _, h1, _⟩ := hs h; cases h1
    subst hx
    obtain rfl : n = 0 := hn'.out
    have he := fun (w : World) (c : Nat) => Lib.run_eql_slice_nil (P := Try.prog) w 25 31 none 0 c 0 0 Try.underlying25
    go_enter Try.func55, Try.ntmps55
    go_wp2
    go_ret
    exact ⟨_, rfl, Own.nil_ _ _ _ _ _, Below.refl _ _⟩
  | some ad =>
    have he := fun (w : World) (c : Nat) => Lib.run_eql_slice_nil (P := Try.prog) w 25 31 (some ad) n c 0 0 Try.underlying25
    go_enter Try.func55, Try.ntmps55
    go_wp2_with (at_builtin; refine wpList_app encT_len (by omega) encT_one rfl _ _ 25 rfl 31 _ 24 Try.underlying25 info_T rfl w.heap.size _ [] rfl (own_empty encT 3 _ w) lo hi _ xs _ _ rfl hn'.out ?h1 ?h2 ?h3 ?_)
    case h1 => exact hs.below ((Below.refl hi w).alloc hhi _) (Nat.le_refl _)
    case h2 => have := hn'.out; simp [maxLen]; omega
    case h3 => simp
    intro v' w1 ho hg hb1
    go_wp2
    go_ret
    exact ⟨_, rfl, ho, (Below.refl _ _).trans (((Below.refl _ _).alloc (Nat.le_refl _) _).trans hb1)⟩

theorem clip_c (A : Option Addr) (n c : Nat) (w : World) (h0 : n ≤ c) (h1 : c ≤ maxLen) (hA : A = none → n = 0) (hA2 : ∀ a, A = some a → ∃ g, a = ⟨g, 0, none⟩) :
    Calls Try.prog 48 #[.slice A n c] w fun e w' => e = .returned (.slice A n n) ∧ w = w' := by
  unfold maxLen at h1
  cases A with
  | none =>
    obtain rfl := hA rfl
    go_enter Try.func48, Try.ntmps48
    go_wp2
    go_ret
    exact ⟨rfl, rfl⟩
  | some a =>
    obtain ⟨g, rfl⟩ := hA2 a rfl
    clear hA hA2
    go_enter Try.func48, Try.ntmps48
    go_wp2
    go_ret
    exact ⟨rfl, rfl⟩

theorem clone_c (A : Option Addr) (n c lo hi : Nat) (xs : List Tm) (w : World) (hn : n = xs.length) (hb : n ≤ 1048576) (hs : Sl encT 3 w lo hi A xs) (hhi : hi ≤ w.heap.size) :
    Calls Try.prog 43 #[.slice A n c] w fun e w' => ∃ A', e = .returned (.slice A' n n) ∧ Own encT 3 31 w' w.heap.size (.slice A' n n) xs ∧ Below w.heap.size w w' := by
  have hn' := hide hn
  clear hn
  go_enter Try.func43, Try.ntmps43
  go_wp2_with fail
  refine (clone1_c A n c lo hi xs w hn'.out hb hs hhi).mono ?_
  rintro e w1 ⟨v, rfl, ho, hb1⟩
  obtain ⟨A', c', rfl, h1, h2, h3⟩ := ho.form
  have hz := ho.clip
  rw [← hn'.out] at h1 hz ho ⊢
  have hcl := clip_c A' n c' w1 h1 h2 (by
    rintro rfl
    rcases ho with ⟨h4, h5⟩ | ⟨g, cap, cur, he, _⟩
    · injection h4
    · injection he with he; cases he) (by
    intro a ha
    rcases h3 with h3 | ⟨g, h3, _⟩
    · rw [h3] at ha; cases ha
    · rw [h3] at ha; injection ha with ha; exact ⟨g, ha.symm⟩)
  clear h3 h1 h2
  go_wp2_with fail
  refine hcl.mono ?_
  rintro e w2 ⟨rfl, rfl⟩
  go_wp2
  go_ret
  exact ⟨A', rfl, hz, hb1⟩

theorem index_c (A : Option Addr) (n c lo hi : Nat) (xs : List Tm) (v : Tm) (w : World) (hn : n = xs.length) (hb : n ≤ 1048576) (hs : Sl encT 3 w lo hi A xs) (hhi : hi ≤ w.heap.size) :
    Calls Try.prog 52 #[.slice A n c, .agg #[.int .i64 v.1, .int .i64 v.2.1, .int .i64 v.2.2]] w fun e w' => ∃ i : Int, e = .returned (.int .i64 i) ∧ (i = -1 ∧ ¬ v ∈ xs ∨ 0 ≤ i ∧ v ∈ xs) ∧ Below w.heap.size w w' := by
  have hn' := hide hn
  clear hn
  go_enter Try.func52, Try.ntmps52
  go_wp2
  go_loopw [8] (fun i wr => ∃ k : Nat, k ≤ n ∧ i = .int .i64 k ∧ (∀ j (h : j < xs.length), j < k → ¬ xs[j] = v) ∧ Since (w.alloc (.cells #[.int .i64 v.1, .int .i64 v.2.1, .int .i64 v.2.2] 31)) wr ∧ Below w.heap.size w wr) (fun i _ => n - (intOf i).toNat)
  case atStart => exact ⟨0, Nat.zero_le _, rfl, fun j h h' => absurd h' (by omega), Since.refl _, (Below.refl _ _).alloc (Nat.le_refl _) _⟩
  case round =>
    obtain ⟨k, hk, rfl, hno, hsi, hbr⟩ := hrel
    have hno' := hide hno
    clear hno
    have v0 : wr.cell? ⟨w.heap.size, 0, none⟩ = some (.int .i64 v.1) := hsi.cell (by simp) (by simp)
    have v1 : wr.cell? ⟨w.heap.size, 1, none⟩ = some (.int .i64 v.2.1) := hsi.cell (by simp) (by simp)
    have v2 : wr.cell? ⟨w.heap.size, 2, none⟩ = some (.int .i64 v.2.2) := hsi.cell (by simp) (by simp)
    by_cases hlt : k < n
    · have hlx : k < xs.length := by have := hn'.out; omega
      obtain ⟨b, off, rfl, hlo, hbh⟩ := hs.addr hlx
      obtain ⟨a1, a2, a3⟩ := (hs.below hbr hhi).tm hlx
      cases e0 : (v.1 == xs[k].1) <;> cases e1 : (v.2.1 == xs[k].2.1) <;> cases e2 : (v.2.2 == xs[k].2.2)
      all_goals
        have E0 := hide e0
        have E1 := hide e1
        have E2 := hide e2
        go_wp2
        refine wp_region_T (fun _ => True) [] [] [] [0, 1, 2, 3, 4, 5] (by kernel_rfl) (by kernel_rfl) (by kernel_rfl) trivial ?_; simp only [pickL, List.getElem?_cons_succ, List.getElem?_cons_zero]
        go_wp2_with (first
          | ((with_reducible refine wpT_q0 ?_ ?_ ?_ ?_); (focus rfl); (focus rfl); (focus rfl); intro K hK) | ((with_reducible refine wpT_x0 ?_ ?_ ?_); (focus rfl); (focus rfl); intro K hK) | ((with_reducible refine wpT_noL ?_ ?_); (focus (first | exact wanted_no _ _ _ rfl rfl rfl | exact wanted_un _ _ _ rfl rfl rfl)); simp only [setO, List.set_cons_succ, List.set_cons_zero]) | ((with_reducible refine wpT_q1 ?_ ?_ ?_ ?_); (focus exact wanted_yes _ _ _ rfl rfl rfl); (focus rfl); (focus rfl); intro K hK) | ((with_reducible refine wpT_x1 ?_ ?_ ?_); (focus exact wanted_yes _ _ _ rfl rfl rfl); (focus rfl); intro K hK) | ((with_reducible refine wpT_nil ?_); try dsimp only)
          | fail)
      all_goals first
        | (go_ret
           have : v = xs[k] := Prod.ext (by simpa using E0.out) (Prod.ext (by simpa using E1.out) (by simpa using E2.out))
           exact ⟨k, rfl, .inr ⟨by omega, by rw [this]; exact List.getElem_mem _⟩, hbr.trans (Below.drew (Below.refl _ _))⟩)
        | (go_roundw
           case rel =>
             refine ⟨k + 1, by omega, by go_num, fun j hj hjk he => ?_, hsi.drewR, hbr.trans (Below.drew (Below.refl _ _))⟩
             by_cases hjk' : j < k
             · exact hno'.out j hj hjk' he
             · obtain rfl : j = k := by omega
               have E0' := E0.out
               have E1' := E1.out
               have E2' := E2.out
               rw [he] at E0' E1' E2'
               simp at E0' E1' E2'
           case measure => simp [intOf]; omega)
    · obtain rfl : k = n := by omega
      go_wp2
      go_ret
      refine ⟨-1, rfl, .inl ⟨rfl, fun hm => ?_⟩, hbr⟩
      obtain ⟨j, hj, he⟩ := List.mem_iff_getElem.1 hm
      exact hno'.out j hj (by have := hn'.out; omega) he

theorem contains_c (A : Option Addr) (n c lo hi : Nat) (xs : List Tm) (v : Tm) (w : World) (hn : n = xs.length) (hb : n ≤ 1048576) (hs : Sl encT 3 w lo hi A xs) (hhi : hi ≤ w.heap.size) :
    Calls Try.prog 37 #[.slice A n c, .agg #[.int .i64 v.1, .int .i64 v.2.1, .int .i64 v.2.2]] w fun e w' => e = .returned (.bool (decide (v ∈ xs))) ∧ Below w.heap.size w w' := by
  have hn' := hide hn
  clear hn
  have hs1 := hs.below ((Below.refl hi w).alloc hhi (.cells #[.int .i64 v.1, .int .i64 v.2.1, .int .i64 v.2.2] 31)) (Nat.le_refl _)
  go_enter Try.func37, Try.ntmps37
  go_wp2_with (go_at_call 52; refine (index_c A n c lo hi xs v _ hn'.out hb hs1 (by simp; omega)).mono ?_; rintro e w1 ⟨i, rfl, hi', hb1⟩)
  go_ret
  refine ⟨congrArg (fun b => Ending.returned (.bool b)) ?_, ((Below.refl _ _).alloc (Nat.le_refl _) _).trans (hb1.mono (by simp))⟩
  rcases hi' with ⟨rfl, h⟩ | ⟨h1, h⟩
  · simp [h]
  · simp [h, h1]
end Go.Proofs.Ytaklfalkpkifmaa
