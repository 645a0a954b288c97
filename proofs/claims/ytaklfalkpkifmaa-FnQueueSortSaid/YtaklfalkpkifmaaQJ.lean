/-
  The specification's 'QueueAdd'.
-/
import Derived.Test.YtaklfalkpkifmaaQI
namespace Go.Proofs.Ytaklfalkpkifmaa
open Go.RowKit Rg
set_option linter.unusedVariables false

set_option maxHeartbeats 2000000 in
theorem specQueueAdd_c (A : Option Addr) (n c lo hi : Nat) (xs : List Tm) (t : Tm) (w : World) (hn : n = xs.length) (hb : n ≤ 1048576) (hs : Sl encT 3 w lo hi A xs) (hhi : hi ≤ w.heap.size) :
    Calls Try.prog 19 #[.slice A n c, .agg #[.int .i64 t.1, .int .i64 t.2.1, .int .i64 t.2.2]] w fun e w' => ∃ v, e = .returned (.tuple #[v, .bool (addL xs t).2]) ∧ Own encT 3 31 w' w.heap.size v (addL xs t).1 ∧ Below w.heap.size w w' := by
  have hn' := hide hn
  clear hn
  have hW : Below w.heap.size w (w.alloc (.cells #[.int .i64 t.1, .int .i64 t.2.1, .int .i64 t.2.2] 31)) := (Below.refl _ _).alloc (Nat.le_refl _) _
  go_enter Try.func19, Try.ntmps19
  go_wp2_with fail
  refine (l13Ok_c A n c lo hi xs _ hn'.out hb (hs.below hW hhi) (Nat.le_trans hhi hW.size)).mono ?_
  rintro e w1 ⟨rfl, hb1⟩
  dsimp only
  obtain ⟨b1, b2, b3⟩ := box3' (wr := w) (e := 31) hb1
  have hB1 : Below w.heap.size w w1 := hW.trans (hb1.mono hW.size)
  have hlt1 : w.heap.size < w1.heap.size := by have := hb1.size; simp at this; omega
  cases e1 : decide (okQ xs)
  · go_wp2
    refine bodyPost_ret (v := .tuple #[.slice none 0 0, .bool false]) (by simp [results, Try.results19, go_sem]) rfl ⟨.slice none 0 0, ?_, ?_, ?_⟩
    · rw [addL_not e1]
    · rw [addL_not e1]; exact Own.nil_ _ _ _ _ _
    · exact hB1
  · have hle : Hid (n ≤ 20) := hide (by have := hn'.out; have h := (of_decide_eq_true e1).2; omega)
    go_wp2_with (at_builtin; refine wpList_app encT_len (by omega) encT_one rfl _ _ 25 rfl 31 _ 24 Try.underlying25 info_T rfl w1.heap.size _ [] rfl (own_empty encT 3 _ w1) lo hi _ xs _ _ rfl hn'.out ?h1 ?h2 ?h3 ?_)
    case h1 => exact hs.below (hB1.alloc hB1.size _) hhi
    case h2 => have := hn'.out; simp [maxLen]; omega
    case h3 => simp
    intro v2 w2 ho2' hg2 hb2
    have hb2' : Below w1.heap.size w1 w2 := ((Below.refl _ _).alloc (Nat.le_refl _) _).trans hb2
    have hB2 : Below w.heap.size w w2 := hB1.trans (hb2'.mono hB1.size)
    have ho2 : Own encT 3 31 w2 w.heap.size v2 xs := by simpa using ho2'.mono hB1.size
    clear ho2' hg2 hb2
    have c1 := keepc hb2' b1
    have c2 := keepc hb2' b2
    have c3 := keepc hb2' b3
    obtain ⟨A', c', rfl, hc', hm', hs'⟩ := ho2.sl encT_len
    rw [← hn'.out] at ho2 hc' ⊢
    clear hs' b1 b2 b3
    have hlt2 : w.heap.size < w2.heap.size := Nat.lt_of_lt_of_le hlt1 hb2'.size
    go_wp2
    go_loopw [7] (fun i wr => ∃ k : Nat, k ≤ n ∧ i = .int .i64 k ∧ (∀ j (h : j < xs.length), j < k → ¬ xs[j] = t) ∧ Below w2.heap.size w2 wr) (fun i _ => n - (intOf i).toNat)
    case atStart => exact ⟨0, Nat.zero_le _, rfl, fun j h h' => absurd h' (by omega), Below.refl _ _⟩
    case round =>
      obtain ⟨k, hk, rfl, hno, hsi⟩ := hrel
      have hno' := hide hno
      clear hno
      have v0 := keepc hsi c1
      have v1 := keepc hsi c2
      have v2 := keepc hsi c3
      have hsr : Sl encT 3 wr lo hi A xs := hs.below (hB2.trans (hsi.mono hB2.size)) hhi
      by_cases hlt : k < n
      · have hlx : k < xs.length := by have := hn'.out; omega
        obtain ⟨b, off, rfl, hlo, hbh⟩ := hs.addr hlx
        obtain ⟨a1, a2, a3⟩ := hsr.tm hlx
        clear c1 c2 c3
        cases f0 : (xs[k].1 == t.1) <;> cases f1 : (xs[k].2.1 == t.2.1) <;> cases f2 : (xs[k].2.2 == t.2.2)
        all_goals
          have E0 := hide f0
          have E1 := hide f1
          have E2 := hide f2
          go_wp2
          refine wp_region_T (fun _ => True) [] [] [] [0, 1, 2, 3, 4, 5] (by kernel_rfl) (by kernel_rfl) (by kernel_rfl) trivial ?_; simp only [pickL, List.getElem?_cons_succ, List.getElem?_cons_zero]
          go_wp2_with (first
            | ((with_reducible refine wpT_q0 ?_ ?_ ?_ ?_); (focus rfl); (focus rfl); (focus rfl); intro K hK) | ((with_reducible refine wpT_x0 ?_ ?_ ?_); (focus rfl); (focus rfl); intro K hK) | ((with_reducible refine wpT_noL ?_ ?_); (focus (first | exact wanted_no _ _ _ rfl rfl rfl | exact wanted_un _ _ _ rfl rfl rfl)); simp only [setO, List.set_cons_succ, List.set_cons_zero]) | ((with_reducible refine wpT_q1 ?_ ?_ ?_ ?_); (focus exact wanted_yes _ _ _ rfl rfl rfl); (focus rfl); (focus rfl); intro K hK) | ((with_reducible refine wpT_x1 ?_ ?_ ?_); (focus exact wanted_yes _ _ _ rfl rfl rfl); (focus rfl); intro K hK) | ((with_reducible refine wpT_nil ?_); try dsimp only)
            | fail)
        all_goals first
          | (have h : xs[k] = t := Prod.ext (by simpa using E0.out) (Prod.ext (by simpa using E1.out) (by simpa using E2.out))
             have hno : addL xs t = (xs, false) := addL_no e1 (.inr (.inl (by rw [← h]; exact List.getElem_mem _)))
             refine bodyPost_ret (v := .tuple #[.slice A' n c', .bool false]) (by simp [results, Try.results19, go_sem]) rfl ⟨.slice A' n c', ?_, ?_, ?_⟩
             · rw [hno]
             · rw [hno]; exact (ho2.below hsi (Nat.le_refl _)).drew
             · exact (hB2.trans (hsi.mono hB2.size)).drew)
          | (go_roundw
             case rel =>
               refine ⟨k + 1, by omega, by go_num, fun j hj hjk he => ?_, hsi.drew⟩
               by_cases hjk' : j < k
               · exact hno'.out j hj hjk' he
               · obtain rfl : j = k := by omega
                 have E0' := E0.out
                 have E1' := E1.out
                 have E2' := E2.out
                 rw [he] at E0' E1' E2'
                 simp at E0' E1' E2'
             case measure => simp [intOf]; omega)
      · obtain rfl : k = n := by omega
        have hni : ¬ t ∈ xs := fun hm => by
          obtain ⟨j, hj, he⟩ := List.mem_iff_getElem.1 hm
          exact hno'.out j hj (by have := hn'.out; omega) he
        have hB3 : Below w.heap.size w wr := hB2.trans (hsi.mono hB2.size)
        have ho3 := ho2.below hsi (Nat.le_refl _)
        clear c1 c2 c3
        go_wp2_with fail
        refine (timedOk_t t wr).mono ?_
        rintro e w4 ⟨rfl, hb4⟩
        have hB4 : Below w.heap.size w w4 := hB3.trans (hb4.mono hB3.size)
        have ho4 := ho3.below hb4 (Nat.le_refl _)
        have g1 := keepc hb4 v0
        have g2 := keepc hb4 v1
        have g3 := keepc hb4 v2
        dsimp only
        cases e2 : okT t
        · have hno : addL xs t = (xs, false) := addL_no e1 (.inl e2)
          go_wp2
          refine bodyPost_ret (v := .tuple #[.slice A' k c', .bool false]) (by simp [results, Try.results19, go_sem]) rfl ⟨.slice A' k c', ?_, ?_, ?_⟩
          · rw [hno]
          · rw [hno]; exact ho4
          · exact hB4
        · by_cases h20 : k = 20
          · have e4 : decide (20 ≤ (k : Int)) = true := by simp; omega
            have hno : addL xs t = (xs, false) := addL_no e1 (.inr (.inr (by have := hn'.out; omega)))
            go_wp2
            refine bodyPost_ret (v := .tuple #[.slice A' k c', .bool false]) (by simp [results, Try.results19, go_sem]) rfl ⟨.slice A' k c', ?_, ?_, ?_⟩
            · rw [hno]
            · rw [hno]; exact ho4
            · exact hB4
          · have e4 : decide (20 ≤ (k : Int)) = false := by have := hle.out; simp; omega
            have hy' := hide (addL_yes (t := t) e1 e2 (by simpa using hni) (by have := hn'.out; omega))
            go_wp2_with (at_builtin; refine wpList_app encT_len (by omega) encT_one rfl _ _ 25 rfl 31 _ 24 Try.underlying25 info_T rfl w.heap.size _ xs rfl (ho4.alloc _) 0 _ _ [t] _ _ rfl rfl (sl_one w4 t _) ?h2 ?h3 ?_)
            case h2 => have := hn'.out; have := hle.out; simp [maxLen]; omega
            case h3 => simp; have := hB4.size; omega
            intro v5 w5 ho5 hg5 hb5
            have hB5 : Below w.heap.size w w5 := (hB4.alloc hB4.size _).trans hb5
            have hl6 : (xs ++ [t]).length = k + 1 := by have := hn'.out; simp; omega
            obtain ⟨A5, c5, rfl, hc5, hm5, hs5⟩ := ho5.sl encT_len
            rw [hl6] at ho5 hc5 ⊢
            obtain ⟨g, rfl, hg1, hg2⟩ := ho5.addrAt (k := 0) (by omega)
            go_wp2_with fail
            refine (rise_c g (k + 1) c5 w.heap.size (xs ++ [t]) w5 hl6.symm (by omega) (by have := hle.out; omega) ho5).mono ?_
            rintro e w6 ⟨rfl, ho6, hon6⟩
            go_wp2
            refine bodyPost_ret (v := .tuple #[.slice (some ⟨g, 0, none⟩) (k + 1) c5, .bool true]) (by simp [results, Try.results19, go_sem]) rfl ⟨.slice (some ⟨g, 0, none⟩) (k + 1) c5, ?_, ?_, ?_⟩
            · rw [hy'.out]
            · rw [hy'.out, ← hn'.out]; simpa using ho6
            · exact hB5.trans (hon6.toBelow hB5.size (fun j hj => by cases hj; exact hg1))
end Go.Proofs.Ytaklfalkpkifmaa
