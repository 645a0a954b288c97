/-
  'QueueOk' in both packages.
-/
import Derived.Test.YtaklfalkpkifmaaQC
namespace Go.Proofs.Ytaklfalkpkifmaa
open Go.RowKit Rg
set_option linter.unusedVariables false

/-- What is asked of the thing at place i. -/
def goodAt (q : List Tm) (i : Nat) : Prop := ∃ h : i < q.length, okT q[i] = true ∧ ¬ q[i] ∈ q.take i ∧ (0 < i → ltT q[i] (q[(i - 1) / 2]'(by omega)) = false)
/-- A queue that is ok. -/
def okQ (q : List Tm) : Prop := (∀ i, i < q.length → goodAt q i) ∧ q.length ≤ 20
instance (q : List Tm) (i : Nat) : Decidable (goodAt q i) := by unfold goodAt; infer_instance
instance (q : List Tm) : Decidable (okQ q) := by unfold okQ; infer_instance

theorem not_okQ {q : List Tm} {i : Nat} (hi : i < q.length) (h : ¬ goodAt q i) : decide (okQ q) = false := by
  simp only [decide_eq_false_iff_not]
  exact fun hq => h (hq.1 i hi)

theorem half_toNat (k : Nat) (h : 0 < k) : (((k : Int) - 1) / 2).toNat = (k - 1) / 2 := by omega

theorem box3 {wr w1 : World} {x y z : Value} {e : TypeId} (hb : Below (wr.alloc (.cells #[x, y, z] e)).drew.heap.size (wr.alloc (.cells #[x, y, z] e)).drew w1) :
    w1.cell? ⟨wr.heap.size, 0, none⟩ = some x ∧ w1.cell? ⟨wr.heap.size, 1, none⟩ = some y ∧ w1.cell? ⟨wr.heap.size, 2, none⟩ = some z :=
  ⟨(hb.cell (by simp)).trans (by simp), (hb.cell (by simp)).trans (by simp), (hb.cell (by simp)).trans (by simp)⟩
theorem goodAt_all {q : List Tm} {k : Nat} (h : ∀ i, i < k → goodAt q i) (hk : goodAt q k) : ∀ i, i < k + 1 → goodAt q i := fun i hi => by
  by_cases h' : i < k
  · exact h i h'
  · obtain rfl : i = k := by omega
    exact hk

set_option maxHeartbeats 1000000 in
theorem QueueOk_c (A : Option Addr) (n c lo hi : Nat) (xs : List Tm) (w : World) (hn : n = xs.length) (hb : n ≤ 1048576) (hc : n ≤ c) (hc2 : c ≤ maxLen) (hs : Sl encT 3 w lo hi A xs) (hhi : hi ≤ w.heap.size) :
    Calls Try.prog 15 #[.slice A n c] w fun e w' => e = .returned (.bool (decide (okQ xs))) ∧ Below w.heap.size w w' := by
  have hn' := hide hn
  clear hn
  unfold maxLen at hc2
  go_enter Try.func15, Try.ntmps15
  go_wp2
  go_loopw [7] (fun i wr => ∃ k : Nat, k ≤ n ∧ i = .int .i64 k ∧ (∀ i, i < k → goodAt xs i) ∧ Below w.heap.size w wr) (fun i _ => n - (intOf i).toNat)
  case atStart => exact ⟨0, Nat.zero_le _, rfl, fun i h => absurd h (by omega), Below.refl _ _⟩
  case round =>
    obtain ⟨k, hk, rfl, hgo, hbr⟩ := hrel
    have hgo' := hide hgo
    clear hgo
    by_cases hlt : k < n
    · have hlx : k < xs.length := by have := hn'.out; omega
      have hlp : (k - 1) / 2 < xs.length := by omega
      obtain ⟨b, off, rfl, hlo, hbh⟩ := hs.addr hlx
      have hsr := hs.below hbr hhi
      obtain ⟨a1, a2, a3⟩ := hsr.tm hlx
      obtain ⟨p1, p2, p3⟩ := hsr.tm hlp
      have hbox : Below w.heap.size w (wr.alloc (.cells #[.int .i64 xs[k].1, .int .i64 xs[k].2.1, .int .i64 xs[k].2.2] 31)).drew := (hbr.alloc hbr.size _).drew
      cases e0 : okT xs[k]
      · have hng : ¬ goodAt xs k := fun ⟨_, h1, _⟩ => by rw [e0] at h1; cases h1
        go_wp2
        refine wp_region_T (fun _ => True) [] [] [] [0, 1, 2, 3, 4, 5, 6, 7, 8, 9, 10, 11, 12, 13, 14, 15, 16, 17, 18, 19, 20, 21, 22, 23] (by kernel_rfl) (by kernel_rfl) (by kernel_rfl) trivial ?_; simp only [pickL, List.getElem?_cons_succ, List.getElem?_cons_zero]
        go_wp2_with (first
          | ((with_reducible refine wpT_q0 ?_ ?_ ?_ ?_); (focus rfl); (focus rfl); (focus rfl); intro K hK) | ((with_reducible refine wpT_x0 ?_ ?_ ?_); (focus rfl); (focus rfl); intro K hK) | ((with_reducible refine wpT_noL ?_ ?_); (focus (first | exact wanted_no _ _ _ rfl rfl rfl | exact wanted_un _ _ _ rfl rfl rfl)); simp only [setO, List.set_cons_succ, List.set_cons_zero]) | ((with_reducible refine wpT_q1 ?_ ?_ ?_ ?_); (focus exact wanted_yes _ _ _ rfl rfl rfl); (focus rfl); (focus rfl); intro K hK) | ((with_reducible refine wpT_x1 ?_ ?_ ?_); (focus exact wanted_yes _ _ _ rfl rfl rfl); (focus rfl); intro K hK) | ((with_reducible refine wpT_nil ?_); try dsimp only)
          | (go_at_call 36; refine (ok_t xs[k] _).mono ?_; rintro e w1 ⟨rfl, hb1⟩; dsimp only))
        go_ret
        exact ⟨by rw [not_okQ hlx hng]; rfl, hbox.trans (hb1.mono (by simp; have := hbr.size; omega))⟩
      · cases e1 : decide (xs[k] ∈ xs.take k)
        · have hm : ¬ xs[k] ∈ xs.take k := by simpa using e1
          by_cases hk0 : 0 < k
          · have e3 : decide (0 < (k : Int)) = true := by simpa using hk0
            cases e2 : ltT xs[k] xs[(k - 1) / 2]
            · have hg : goodAt xs k := ⟨hlx, e0, hm, fun _ => e2⟩
              go_wp2
              refine wp_region_T (fun _ => True) [] [] [] [0, 1, 2, 3, 4, 5, 6, 7, 8, 9, 10, 11, 12, 13, 14, 15, 16, 17, 18, 19, 20, 21, 22, 23] (by kernel_rfl) (by kernel_rfl) (by kernel_rfl) trivial ?_; simp only [pickL, List.getElem?_cons_succ, List.getElem?_cons_zero]
              go_wp2_with (first
                | ((with_reducible refine wpT_q0 ?_ ?_ ?_ ?_); (focus rfl); (focus rfl); (focus rfl); intro K hK) | ((with_reducible refine wpT_x0 ?_ ?_ ?_); (focus rfl); (focus rfl); intro K hK) | ((with_reducible refine wpT_noL ?_ ?_); (focus (first | exact wanted_no _ _ _ rfl rfl rfl | exact wanted_un _ _ _ rfl rfl rfl)); simp only [setO, List.set_cons_succ, List.set_cons_zero]) | ((with_reducible refine wpT_q1 ?_ ?_ ?_ ?_); (focus exact wanted_yes _ _ _ rfl rfl rfl); (focus rfl); (focus rfl); intro K hK) | ((with_reducible refine wpT_x1 ?_ ?_ ?_); (focus exact wanted_yes _ _ _ rfl rfl rfl); (focus rfl); intro K hK) | ((with_reducible refine wpT_nil ?_); try dsimp only)
                | (go_at_call 36; refine (ok_t xs[k] _).mono ?_; rintro e w1 ⟨rfl, hb1⟩; obtain ⟨d0, d1, d2⟩ := box3 hb1; have hB1 : Below w.heap.size w w1 := hbox.trans (hb1.mono (by have := hbr.size; simp; omega)); dsimp only)
                | (go_at_call 37; refine (contains_c _ k c lo hi (xs.take k) xs[k] _ (by simp; omega) (by omega) ((hs.below hB1 hhi).take_ k) (by have := hB1.size; omega)).mono ?_; rintro e w2 ⟨rfl, hb2⟩; have hB2 : Below w.heap.size w w2 := hB1.trans (hb2.mono hB1.size); have x0 := keepc hb2 d0; have x1 := keepc hb2 d1; have x2 := keepc hb2 d2; obtain ⟨q1, q2, q3⟩ := (hs.below hB2 hhi).tm hlp; dsimp only)
                | (go_at_call 38; refine (before_t xs[k] xs[(k - 1) / 2] _).mono ?_; rintro e w3 ⟨rfl, hb3⟩; dsimp only))
              go_roundw
              case rel => exact ⟨k + 1, by omega, by go_num, goodAt_all hgo'.out hg, hB2.trans (hb3.mono hB2.size)⟩
              case measure => simp [intOf]; omega
            · have hng : ¬ goodAt xs k := fun ⟨_, _, _, h1⟩ => by rw [h1 hk0] at e2; cases e2
              go_wp2
              refine wp_region_T (fun _ => True) [] [] [] [0, 1, 2, 3, 4, 5, 6, 7, 8, 9, 10, 11, 12, 13, 14, 15, 16, 17, 18, 19, 20, 21, 22, 23] (by kernel_rfl) (by kernel_rfl) (by kernel_rfl) trivial ?_; simp only [pickL, List.getElem?_cons_succ, List.getElem?_cons_zero]
              go_wp2_with (first
                | ((with_reducible refine wpT_q0 ?_ ?_ ?_ ?_); (focus rfl); (focus rfl); (focus rfl); intro K hK) | ((with_reducible refine wpT_x0 ?_ ?_ ?_); (focus rfl); (focus rfl); intro K hK) | ((with_reducible refine wpT_noL ?_ ?_); (focus (first | exact wanted_no _ _ _ rfl rfl rfl | exact wanted_un _ _ _ rfl rfl rfl)); simp only [setO, List.set_cons_succ, List.set_cons_zero]) | ((with_reducible refine wpT_q1 ?_ ?_ ?_ ?_); (focus exact wanted_yes _ _ _ rfl rfl rfl); (focus rfl); (focus rfl); intro K hK) | ((with_reducible refine wpT_x1 ?_ ?_ ?_); (focus exact wanted_yes _ _ _ rfl rfl rfl); (focus rfl); intro K hK) | ((with_reducible refine wpT_nil ?_); try dsimp only)
                | (go_at_call 36; refine (ok_t xs[k] _).mono ?_; rintro e w1 ⟨rfl, hb1⟩; obtain ⟨d0, d1, d2⟩ := box3 hb1; have hB1 : Below w.heap.size w w1 := hbox.trans (hb1.mono (by have := hbr.size; simp; omega)); dsimp only)
                | (go_at_call 37; refine (contains_c _ k c lo hi (xs.take k) xs[k] _ (by simp; omega) (by omega) ((hs.below hB1 hhi).take_ k) (by have := hB1.size; omega)).mono ?_; rintro e w2 ⟨rfl, hb2⟩; have hB2 : Below w.heap.size w w2 := hB1.trans (hb2.mono hB1.size); have x0 := keepc hb2 d0; have x1 := keepc hb2 d1; have x2 := keepc hb2 d2; obtain ⟨q1, q2, q3⟩ := (hs.below hB2 hhi).tm hlp; dsimp only)
                | (go_at_call 38; refine (before_t xs[k] xs[(k - 1) / 2] _).mono ?_; rintro e w3 ⟨rfl, hb3⟩; dsimp only))
              go_ret
              exact ⟨by rw [not_okQ hlx hng]; rfl, hB2.trans (hb3.mono hB2.size)⟩
          · have e3 : decide (0 < (k : Int)) = false := by simpa using hk0
            have hg : goodAt xs k := ⟨hlx, e0, hm, fun h => absurd h hk0⟩
            go_wp2
            refine wp_region_T (fun _ => True) [] [] [] [0, 1, 2, 3, 4, 5, 6, 7, 8, 9, 10, 11, 12, 13, 14, 15, 16, 17, 18, 19, 20, 21, 22, 23] (by kernel_rfl) (by kernel_rfl) (by kernel_rfl) trivial ?_; simp only [pickL, List.getElem?_cons_succ, List.getElem?_cons_zero]
            go_wp2_with (first
              | ((with_reducible refine wpT_q0 ?_ ?_ ?_ ?_); (focus rfl); (focus rfl); (focus rfl); intro K hK) | ((with_reducible refine wpT_x0 ?_ ?_ ?_); (focus rfl); (focus rfl); intro K hK) | ((with_reducible refine wpT_noL ?_ ?_); (focus (first | exact wanted_no _ _ _ rfl rfl rfl | exact wanted_un _ _ _ rfl rfl rfl)); simp only [setO, List.set_cons_succ, List.set_cons_zero]) | ((with_reducible refine wpT_q1 ?_ ?_ ?_ ?_); (focus exact wanted_yes _ _ _ rfl rfl rfl); (focus rfl); (focus rfl); intro K hK) | ((with_reducible refine wpT_x1 ?_ ?_ ?_); (focus exact wanted_yes _ _ _ rfl rfl rfl); (focus rfl); intro K hK) | ((with_reducible refine wpT_nil ?_); try dsimp only)
              | (go_at_call 36; refine (ok_t xs[k] _).mono ?_; rintro e w1 ⟨rfl, hb1⟩; obtain ⟨d0, d1, d2⟩ := box3 hb1; have hB1 : Below w.heap.size w w1 := hbox.trans (hb1.mono (by have := hbr.size; simp; omega)); dsimp only)
              | (go_at_call 37; refine (contains_c _ k c lo hi (xs.take k) xs[k] _ (by simp; omega) (by omega) ((hs.below hB1 hhi).take_ k) (by have := hB1.size; omega)).mono ?_; rintro e w2 ⟨rfl, hb2⟩; have hB2 : Below w.heap.size w w2 := hB1.trans (hb2.mono hB1.size); have x0 := keepc hb2 d0; have x1 := keepc hb2 d1; have x2 := keepc hb2 d2; obtain ⟨q1, q2, q3⟩ := (hs.below hB2 hhi).tm hlp; dsimp only))
            go_roundw
            case rel => exact ⟨k + 1, by omega, by go_num, goodAt_all hgo'.out hg, hB2⟩
            case measure => simp [intOf]; omega
        · have hng : ¬ goodAt xs k := fun ⟨_, _, h1, _⟩ => by simp at e1; exact h1 e1
          go_wp2
          refine wp_region_T (fun _ => True) [] [] [] [0, 1, 2, 3, 4, 5, 6, 7, 8, 9, 10, 11, 12, 13, 14, 15, 16, 17, 18, 19, 20, 21, 22, 23] (by kernel_rfl) (by kernel_rfl) (by kernel_rfl) trivial ?_; simp only [pickL, List.getElem?_cons_succ, List.getElem?_cons_zero]
          go_wp2_with (first
            | ((with_reducible refine wpT_q0 ?_ ?_ ?_ ?_); (focus rfl); (focus rfl); (focus rfl); intro K hK) | ((with_reducible refine wpT_x0 ?_ ?_ ?_); (focus rfl); (focus rfl); intro K hK) | ((with_reducible refine wpT_noL ?_ ?_); (focus (first | exact wanted_no _ _ _ rfl rfl rfl | exact wanted_un _ _ _ rfl rfl rfl)); simp only [setO, List.set_cons_succ, List.set_cons_zero]) | ((with_reducible refine wpT_q1 ?_ ?_ ?_ ?_); (focus exact wanted_yes _ _ _ rfl rfl rfl); (focus rfl); (focus rfl); intro K hK) | ((with_reducible refine wpT_x1 ?_ ?_ ?_); (focus exact wanted_yes _ _ _ rfl rfl rfl); (focus rfl); intro K hK) | ((with_reducible refine wpT_nil ?_); try dsimp only)
            | (go_at_call 36; refine (ok_t xs[k] _).mono ?_; rintro e w1 ⟨rfl, hb1⟩; obtain ⟨d0, d1, d2⟩ := box3 hb1; have hB1 : Below w.heap.size w w1 := hbox.trans (hb1.mono (by have := hbr.size; simp; omega)); dsimp only)
            | (go_at_call 37; refine (contains_c _ k c lo hi (xs.take k) xs[k] _ (by simp; omega) (by omega) ((hs.below hB1 hhi).take_ k) (by have := hB1.size; omega)).mono ?_; rintro e w2 ⟨rfl, hb2⟩; have hB2 : Below w.heap.size w w2 := hB1.trans (hb2.mono hB1.size); have x0 := keepc hb2 d0; have x1 := keepc hb2 d1; have x2 := keepc hb2 d2; obtain ⟨q1, q2, q3⟩ := (hs.below hB2 hhi).tm hlp; dsimp only))
          go_ret
          exact ⟨by rw [not_okQ hlx hng]; rfl, hB2⟩
    · obtain rfl : k = n := by omega
      go_wp2
      go_ret
      have hl := hn'.out
      have hq : (∀ i, i < xs.length → goodAt xs i) := by rw [← hl]; exact hgo'.out
      exact ⟨congrArg (fun b => Ending.returned (.bool b)) (decide_eq_decide.2 ⟨fun h => ⟨hq, by omega⟩, fun h => by have := h.2; omega⟩), hbr⟩

set_option maxHeartbeats 1600000 in
/-- The specification's 'l13Ok' asks the same. -/
theorem l13Ok_c (A : Option Addr) (n c lo hi : Nat) (xs : List Tm) (w : World) (hn : n = xs.length) (hb : n ≤ 1048576) (hs : Sl encT 3 w lo hi A xs) (hhi : hi ≤ w.heap.size) :
    Calls Try.prog 35 #[.slice A n c] w fun e w' => e = .returned (.bool (decide (okQ xs))) ∧ Below w.heap.size w w' := by
  have hn' := hide hn
  clear hn
  go_enter Try.func35, Try.ntmps35
  go_wp2
  go_loopw [3, 4] (fun i _ wr => ∃ k : Nat, k ≤ n ∧ i = .int .i64 k ∧ (∀ i, i < k → goodAt xs i) ∧ Below w.heap.size w wr) (fun i _ _ => n - (intOf i).toNat)
  case atStart => exact ⟨0, Nat.zero_le _, rfl, fun i h => absurd h (by omega), Below.refl _ _⟩
  case round =>
    obtain ⟨k, hk, rfl, hgo, hbr⟩ := hrel
    have hgo' := hide hgo
    clear hgo
    by_cases hlt : k < n
    · have hlx : k < xs.length := by have := hn'.out; omega
      have hlp : (k - 1) / 2 < xs.length := by omega
      obtain ⟨b, off, rfl, hlo, hbh⟩ := hs.addr hlx
      have hsr := hs.below hbr hhi
      obtain ⟨a1, a2, a3⟩ := hsr.tm hlx
      obtain ⟨p1, p2, p3⟩ := hsr.tm hlp
      cases e0 : okT xs[k]
      · have hng : ¬ goodAt xs k := fun ⟨_, h1, _⟩ => by rw [e0] at h1; cases h1
        go_wp2_with (go_at_call 44; refine (timedOk_t xs[k] _).mono ?_; rintro e w1 ⟨rfl, hb1⟩; dsimp only)
        go_ret
        exact ⟨by rw [not_okQ hlx hng]; rfl, hbr.trans (hb1.mono hbr.size)⟩
      · by_cases hk0 : 0 < k
        · have e3 : decide (0 < (k : Int)) = true := by simpa using hk0
          cases e2 : ltT xs[k] xs[(k - 1) / 2]
          · have hlt2 : 0 < k → ltT xs[k] (xs[(k - 1) / 2]'(by omega)) = false := fun _ => e2
            go_wp2_with (go_at_call 44; refine (timedOk_t xs[k] _).mono ?_; rintro e w1 ⟨rfl, hb1⟩; have hB1 : Below w.heap.size w w1 := hbr.trans (hb1.mono hbr.size); obtain ⟨q1, q2, q3⟩ := (hs.below hB1 hhi).tm hlx; obtain ⟨r1, r2, r3⟩ := (hs.below hB1 hhi).tm hlp; dsimp only)
            refine wp_region_T (fun _ => True) [] [] [] [0, 1, 2, 3, 4, 5, 6, 7, 8, 9, 10, 11, 12, 13, 14] (by kernel_rfl) (by kernel_rfl) (by kernel_rfl) trivial ?_; simp only [pickL, List.getElem?_cons_succ, List.getElem?_cons_zero]
            go_wp2_with (first
              | ((with_reducible refine wpT_q0 ?_ ?_ ?_ ?_); (focus rfl); (focus rfl); (focus rfl); intro K hK) | ((with_reducible refine wpT_x0 ?_ ?_ ?_); (focus rfl); (focus rfl); intro K hK) | ((with_reducible refine wpT_noL ?_ ?_); (focus (first | exact wanted_no _ _ _ rfl rfl rfl | exact wanted_un _ _ _ rfl rfl rfl)); simp only [setO, List.set_cons_succ, List.set_cons_zero]) | ((with_reducible refine wpT_q1 ?_ ?_ ?_ ?_); (focus exact wanted_yes _ _ _ rfl rfl rfl); (focus rfl); (focus rfl); intro K hK) | ((with_reducible refine wpT_x1 ?_ ?_ ?_); (focus exact wanted_yes _ _ _ rfl rfl rfl); (focus rfl); intro K hK) | ((with_reducible refine wpT_nil ?_); try dsimp only)
              | (go_at_call 50; refine (less_t xs[k] xs[(k - 1) / 2] _).mono ?_; rintro e w2 ⟨rfl, hb2⟩; have hB2 : Below w.heap.size w w2 := hB1.trans ((Below.drew (Below.refl _ _)).trans (hb2.mono hB1.size)); dsimp only))
            have hBi := hB2
            clear e2
            have E := hide e0
            clear e0 e3
            obtain ⟨wo, rfl⟩ : ∃ wo : World, wo = wr := ⟨_, rfl⟩
            go_loopw [4] (fun j wi => ∃ m : Nat, m ≤ k ∧ j = .int .i64 m ∧ Hid (∀ i (h : i < xs.length), i < m → ¬ xs[i] = xs[k]) ∧ Below w.heap.size w wi) (fun j _ => k - (intOf j).toNat)
            case atStart => exact ⟨0, Nat.zero_le _, rfl, fun i _ h => absurd h (by omega), hBi⟩
            case round =>
              obtain ⟨m, hm, rfl, hno, hbi⟩ := hrel
              have hsi := hs.below hbi hhi
              obtain ⟨x1, x2, x3⟩ := hsi.tm hlx
              by_cases hmk : m < k
              · have hmx : m < xs.length := by omega
                obtain ⟨y1, y2, y3⟩ := hsi.tm hmx
                cases c0 : (xs[m].1 == xs[k].1) <;> cases c1 : (xs[m].2.1 == xs[k].2.1) <;> cases c2 : (xs[m].2.2 == xs[k].2.2)
                all_goals
                  have E0 := hide c0
                  have E1 := hide c1
                  have E2 := hide c2
                  go_wp2
                  refine wp_region_T (fun _ => True) [] [] [] [0, 1, 2, 3, 4, 5, 6, 7, 8] (by kernel_rfl) (by kernel_rfl) (by kernel_rfl) trivial ?_; simp only [pickL, List.getElem?_cons_succ, List.getElem?_cons_zero]
                  go_wp2_with (first
                    | ((with_reducible refine wpT_q0 ?_ ?_ ?_ ?_); (focus rfl); (focus rfl); (focus rfl); intro K hK) | ((with_reducible refine wpT_x0 ?_ ?_ ?_); (focus rfl); (focus rfl); intro K hK) | ((with_reducible refine wpT_noL ?_ ?_); (focus (first | exact wanted_no _ _ _ rfl rfl rfl | exact wanted_un _ _ _ rfl rfl rfl)); simp only [setO, List.set_cons_succ, List.set_cons_zero]) | ((with_reducible refine wpT_q1 ?_ ?_ ?_ ?_); (focus exact wanted_yes _ _ _ rfl rfl rfl); (focus rfl); (focus rfl); intro K hK) | ((with_reducible refine wpT_x1 ?_ ?_ ?_); (focus exact wanted_yes _ _ _ rfl rfl rfl); (focus rfl); intro K hK) | ((with_reducible refine wpT_nil ?_); try dsimp only)
                    | fail)
                all_goals first
                  | (go_ret
                     have he : xs[m] = xs[k] := Prod.ext (by simpa using E0.out) (Prod.ext (by simpa using E1.out) (by simpa using E2.out))
                     have hng : ¬ goodAt xs k := fun ⟨_, _, h1, _⟩ => h1 (by rw [← he]; exact List.mem_take_iff_getElem.2 ⟨m, by omega, rfl⟩)
                     exact ⟨by rw [not_okQ hlx hng]; rfl, hbi.trans (Below.drew (Below.refl _ _))⟩)
                  | (go_roundw
                     case rel =>
                       refine ⟨m + 1, by omega, by go_num, fun j hj hjk he => ?_, hbi.trans (Below.drew (Below.refl _ _))⟩
                       by_cases hjk' : j < m
                       · exact hno.out j hj hjk' he
                       · obtain rfl : j = m := by omega
                         have E0' := E0.out
                         have E1' := E1.out
                         have E2' := E2.out
                         rw [he] at E0' E1' E2'
                         simp at E0' E1' E2'
                     case measure => simp [intOf]; omega)
              · have hmm : m = k := by omega
                have hg : goodAt xs k := ⟨hlx, E.out, fun hmem => by
                  obtain ⟨j, hj, he⟩ := List.mem_take_iff_getElem.1 hmem
                  exact hno.out j (by omega) (by omega) he, hlt2⟩
                clear hmm
                go_wp2
                go_roundw
                case rel => exact ⟨k + 1, by omega, by go_num, goodAt_all hgo'.out hg, hbi⟩
                case measure => simp [intOf]; omega
          · have hng : ¬ goodAt xs k := fun ⟨_, _, _, h1⟩ => by rw [h1 hk0] at e2; cases e2
            go_wp2_with (go_at_call 44; refine (timedOk_t xs[k] _).mono ?_; rintro e w1 ⟨rfl, hb1⟩; have hB1 : Below w.heap.size w w1 := hbr.trans (hb1.mono hbr.size); obtain ⟨q1, q2, q3⟩ := (hs.below hB1 hhi).tm hlx; obtain ⟨r1, r2, r3⟩ := (hs.below hB1 hhi).tm hlp; dsimp only)
            refine wp_region_T (fun _ => True) [] [] [] [0, 1, 2, 3, 4, 5, 6, 7, 8, 9, 10, 11, 12, 13, 14] (by kernel_rfl) (by kernel_rfl) (by kernel_rfl) trivial ?_; simp only [pickL, List.getElem?_cons_succ, List.getElem?_cons_zero]
            go_wp2_with (first
              | ((with_reducible refine wpT_q0 ?_ ?_ ?_ ?_); (focus rfl); (focus rfl); (focus rfl); intro K hK) | ((with_reducible refine wpT_x0 ?_ ?_ ?_); (focus rfl); (focus rfl); intro K hK) | ((with_reducible refine wpT_noL ?_ ?_); (focus (first | exact wanted_no _ _ _ rfl rfl rfl | exact wanted_un _ _ _ rfl rfl rfl)); simp only [setO, List.set_cons_succ, List.set_cons_zero]) | ((with_reducible refine wpT_q1 ?_ ?_ ?_ ?_); (focus exact wanted_yes _ _ _ rfl rfl rfl); (focus rfl); (focus rfl); intro K hK) | ((with_reducible refine wpT_x1 ?_ ?_ ?_); (focus exact wanted_yes _ _ _ rfl rfl rfl); (focus rfl); intro K hK) | ((with_reducible refine wpT_nil ?_); try dsimp only)
              | (go_at_call 50; refine (less_t xs[k] xs[(k - 1) / 2] _).mono ?_; rintro e w2 ⟨rfl, hb2⟩; have hB2 : Below w.heap.size w w2 := hB1.trans ((Below.drew (Below.refl _ _)).trans (hb2.mono hB1.size)); dsimp only))
            go_ret
            exact ⟨by rw [not_okQ hlx hng]; rfl, hB2⟩
        · have e3 : decide (0 < (k : Int)) = false := by simpa using hk0
          have hlt2 : 0 < k → ltT xs[k] (xs[(k - 1) / 2]'(by omega)) = false := fun h => absurd h hk0
          go_wp2_with (go_at_call 44; refine (timedOk_t xs[k] _).mono ?_; rintro e w1 ⟨rfl, hb1⟩; have hB1 : Below w.heap.size w w1 := hbr.trans (hb1.mono hbr.size); obtain ⟨q1, q2, q3⟩ := (hs.below hB1 hhi).tm hlx; obtain ⟨r1, r2, r3⟩ := (hs.below hB1 hhi).tm hlp; dsimp only)
          refine wp_region_T (fun _ => True) [] [] [] [0, 1, 2, 3, 4, 5, 6, 7, 8, 9, 10, 11, 12, 13, 14] (by kernel_rfl) (by kernel_rfl) (by kernel_rfl) trivial ?_; simp only [pickL, List.getElem?_cons_succ, List.getElem?_cons_zero]
          go_wp2_with (first
            | ((with_reducible refine wpT_q0 ?_ ?_ ?_ ?_); (focus rfl); (focus rfl); (focus rfl); intro K hK) | ((with_reducible refine wpT_x0 ?_ ?_ ?_); (focus rfl); (focus rfl); intro K hK) | ((with_reducible refine wpT_noL ?_ ?_); (focus (first | exact wanted_no _ _ _ rfl rfl rfl | exact wanted_un _ _ _ rfl rfl rfl)); simp only [setO, List.set_cons_succ, List.set_cons_zero]) | ((with_reducible refine wpT_q1 ?_ ?_ ?_ ?_); (focus exact wanted_yes _ _ _ rfl rfl rfl); (focus rfl); (focus rfl); intro K hK) | ((with_reducible refine wpT_x1 ?_ ?_ ?_); (focus exact wanted_yes _ _ _ rfl rfl rfl); (focus rfl); intro K hK) | ((with_reducible refine wpT_nil ?_); try dsimp only)
            | fail)
          have hBi := hB1.drew
          have E := hide e0
          clear e0 e3
          obtain ⟨wo, rfl⟩ : ∃ wo : World, wo = wr := ⟨_, rfl⟩
          go_loopw [4] (fun j wi => ∃ m : Nat, m ≤ k ∧ j = .int .i64 m ∧ Hid (∀ i (h : i < xs.length), i < m → ¬ xs[i] = xs[k]) ∧ Below w.heap.size w wi) (fun j _ => k - (intOf j).toNat)
          case atStart => exact ⟨0, Nat.zero_le _, rfl, fun i _ h => absurd h (by omega), hBi⟩
          case round =>
            obtain ⟨m, hm, rfl, hno, hbi⟩ := hrel
            have hsi := hs.below hbi hhi
            obtain ⟨x1, x2, x3⟩ := hsi.tm hlx
            by_cases hmk : m < k
            · have hmx : m < xs.length := by omega
              obtain ⟨y1, y2, y3⟩ := hsi.tm hmx
              cases c0 : (xs[m].1 == xs[k].1) <;> cases c1 : (xs[m].2.1 == xs[k].2.1) <;> cases c2 : (xs[m].2.2 == xs[k].2.2)
              all_goals
                have E0 := hide c0
                have E1 := hide c1
                have E2 := hide c2
                go_wp2
                refine wp_region_T (fun _ => True) [] [] [] [0, 1, 2, 3, 4, 5, 6, 7, 8] (by kernel_rfl) (by kernel_rfl) (by kernel_rfl) trivial ?_; simp only [pickL, List.getElem?_cons_succ, List.getElem?_cons_zero]
                go_wp2_with (first
                  | ((with_reducible refine wpT_q0 ?_ ?_ ?_ ?_); (focus rfl); (focus rfl); (focus rfl); intro K hK) | ((with_reducible refine wpT_x0 ?_ ?_ ?_); (focus rfl); (focus rfl); intro K hK) | ((with_reducible refine wpT_noL ?_ ?_); (focus (first | exact wanted_no _ _ _ rfl rfl rfl | exact wanted_un _ _ _ rfl rfl rfl)); simp only [setO, List.set_cons_succ, List.set_cons_zero]) | ((with_reducible refine wpT_q1 ?_ ?_ ?_ ?_); (focus exact wanted_yes _ _ _ rfl rfl rfl); (focus rfl); (focus rfl); intro K hK) | ((with_reducible refine wpT_x1 ?_ ?_ ?_); (focus exact wanted_yes _ _ _ rfl rfl rfl); (focus rfl); intro K hK) | ((with_reducible refine wpT_nil ?_); try dsimp only)
                  | fail)
              all_goals first
                | (go_ret
                   have he : xs[m] = xs[k] := Prod.ext (by simpa using E0.out) (Prod.ext (by simpa using E1.out) (by simpa using E2.out))
                   have hng : ¬ goodAt xs k := fun ⟨_, _, h1, _⟩ => h1 (by rw [← he]; exact List.mem_take_iff_getElem.2 ⟨m, by omega, rfl⟩)
                   exact ⟨by rw [not_okQ hlx hng]; rfl, hbi.trans (Below.drew (Below.refl _ _))⟩)
                | (go_roundw
                   case rel =>
                     refine ⟨m + 1, by omega, by go_num, fun j hj hjk he => ?_, hbi.trans (Below.drew (Below.refl _ _))⟩
                     by_cases hjk' : j < m
                     · exact hno.out j hj hjk' he
                     · obtain rfl : j = m := by omega
                       have E0' := E0.out
                       have E1' := E1.out
                       have E2' := E2.out
                       rw [he] at E0' E1' E2'
                       simp at E0' E1' E2'
                   case measure => simp [intOf]; omega)
            · have hmm : m = k := by omega
              have hg : goodAt xs k := ⟨hlx, E.out, fun hmem => by
                obtain ⟨j, hj, he⟩ := List.mem_take_iff_getElem.1 hmem
                exact hno.out j (by omega) (by omega) he, hlt2⟩
              clear hmm
              go_wp2
              go_roundw
              case rel => exact ⟨k + 1, by omega, by go_num, goodAt_all hgo'.out hg, hbi⟩
              case measure => simp [intOf]; omega
    · obtain rfl : k = n := by omega
      go_wp2
      go_ret
      have hl := hn'.out
      have hq : (∀ i, i < xs.length → goodAt xs i) := by rw [← hl]; exact hgo'.out
      exact ⟨congrArg (fun b => Ending.returned (.bool b)) (decide_eq_decide.2 ⟨fun h => ⟨hq, by omega⟩, fun h => by have := h.2; omega⟩), hbr⟩
end Go.Proofs.Ytaklfalkpkifmaa
