/-
  Sums of pieces, sums above sums, 'PieceRoot' and 'PieceProof' in the reference. (Printed by gen_pxe.py.)
-/
import Derived.Test.YtjhgcppjpolamaaDoorPXd
import Derived.Test.YtjhgcppjpolamaaDoorBaseH
namespace Go.Proofs.YtjhgcppjpolamaaDoor
open Go.RowKit Rg
set_option linter.unusedVariables false
set_option linter.unusedSimpArgs false

theorem Own.shape {α : Type} {enc : α → List Value} {sz lo : Nat} {e : TypeId} {w : World} {v : Value} {xs : List α} (h : Own enc sz e w lo v xs) : ∃ A n c, v = .slice A n c ∧ Hid (n = xs.length) := by
  obtain ⟨A, c, h1, _⟩ := h.form
  exact ⟨A, _, c, h1, hide rfl⟩
def lvs (xs : List ByteArray) : List Int := leaves (xs.map (·.data.toList))
theorem lvs_len (xs : List ByteArray) : (lvs xs).length = xs.length := by rw [lvs, leaves_length, List.length_map]
theorem lvs_take (xs : List ByteArray) (k : Nat) (h : k < xs.length) : lvs (xs.take (k + 1)) = lvs (xs.take k) ++ [leafS (k : Int) xs[k].data.toList] := by
  have hl : (xs.take k).length = k := by rw [List.length_take]; omega
  rw [List.take_succ_eq_append_getElem h, lvs, List.map_append, List.map_singleton, leaves_snoc, List.length_map, hl]
  rfl
theorem lvs_sum (xs : List ByteArray) : ∀ a ∈ lvs xs, Sum a := leaves_sum _
theorem sl_oneI (w : World) (x : Int) : Sl encI 1 (w.alloc (.cells #[.int .i64 x] 3)) 0 (w.heap.size + 1) (some ⟨w.heap.size, 0, none⟩) [x] :=
  (sl_arr encI_len w #[.int .i64 x] 3 [x] rfl).mono (Nat.zero_le _) (Nat.le_refl _)
theorem okP_small {xs : List ByteArray} (h : okP xs) : xs.length ≤ 16 ∧ 1 ≤ xs.length ∧ ∀ (i : Nat) (hi : i < xs.length), xs[i].size ≤ 12 :=
  ⟨h.2.1.2, h.2.1.1, fun i hi => by obtain ⟨h1, h2, _⟩ := h.1 i hi; exact h2⟩

set_option maxHeartbeats 1000000 in
theorem l12Leaves_c (A : Option Addr) (n c lo hi : Nat) (xs : List ByteArray) (w : World) (hn : n = xs.length) (hok : okP xs) (hs : Sl encS 1 w lo hi A xs) (hhi : hi ≤ w.heap.size) :
    Calls Tryd.prog 48 #[.slice A n c] w fun e w' => ∃ v, e = .returned v ∧ Own encI 1 3 w' w.heap.size v (lvs xs) ∧ Below w.heap.size w w' := by
  obtain ⟨h16, h1, h12⟩ := okP_small hok
  have hn' := hide hn
  have h12' := hide h12
  have hn16 : n ≤ 16 := by omega
  clear hn h12 hok
  have ho0 := own_empty encI 1 3 w
  have hb0 : Below w.heap.size w (w.alloc (.cells #[] 3)) := (Below.refl _ _).alloc (Nat.le_refl _) _
  go_enter Tryd.func48, Tryd.ntmps48
  go_wp2
  go_loopw [3, 4] (fun ov iv wr => ∃ k : Nat, k ≤ n ∧ iv = .int .i64 (k : Int) ∧ Own encI 1 3 wr w.heap.size ov (lvs (xs.take k)) ∧ Below w.heap.size w wr) (fun _ iv _ => n - (intOf iv).toNat)
  case atStart => exact ⟨0, Nat.zero_le _, rfl, ho0, hb0⟩
  case round =>
    obtain ⟨k, hk, rfl, ho, hbr⟩ := hrel
    by_cases hlt : k < n
    · have hlx : k < xs.length := by have := hn'.out; omega
      obtain ⟨b, off, rfl, hlo, hbh⟩ := hs.addr hlx
      have a1 := (hs.below hbr hhi).str hlx
      have hsz := h12'.out k hlx
      have htk := hide (lvs_take xs k hlx)
      have hlen : Hid ((lvs (xs.take k)).length = k) := hide (by rw [lvs_len, List.length_take]; omega)
      go_wp2_with (first
        | (go_at_call 61; refine (l12Leaf_c k (by omega) xs[k] (by omega) wr).mono ?_; rintro e w1 ⟨rfl, hb1⟩; have ho1 := ho.below hb1 (Nat.le_refl _); have hsl1 := sl_oneI w1 (leafS (k : Int) xs[k].data.toList))
        | (at_builtin; refine wpList_appG encI_len (by omega) encI_one rfl _ _ 22 rfl 3 _ 8 Tryd.underlying22 infoI rfl w.heap.size _ (lvs (xs.take k)) rfl (ho1.alloc _) 0 _ _ [leafS (k : Int) xs[k].data.toList] _ _ rfl rfl hsl1 ?h2 ?h3 ?_))
      case h2 => have := hlen.out; simp [maxLen]; omega
      case h3 => have := hbr.size; have := hb1.size; simp; omega
      intro v2 w2 ho2 hg2 hb2 hloc
      rw [← htk.out] at ho2
      have hb3 : Below w.heap.size w w2 := (hbr.trans (hb1.mono hbr.size)).trans (((Below.refl w1.heap.size w1).alloc (Nat.le_refl _) _ |>.mono (Nat.le_trans hbr.size hb1.size)).trans hb2)
      obtain ⟨A2, c2, rfl, _, _, _⟩ := ho2.form
      go_wp2
      go_roundw
      case rel => exact ⟨k + 1, by omega, by go_num, ho2, hb3⟩
      case measure => simp [intOf]; omega
    · obtain rfl : k = n := by omega
      rw [List.take_of_length_le (by rw [hn'.out]; omega)] at ho
      obtain ⟨A2, c2, rfl, _, _, _⟩ := ho.form
      go_wp2
      go_ret
      exact ⟨_, rfl, ho, hbr⟩

theorem up_take1 (L : List Int) (k : Nat) (h : 2 * k + 1 < L.length) : (up L).take (k + 1) = (up L).take k ++ [nodeS L[2 * k] L[2 * k + 1]] := by
  have hk : k < (up L).length := by rw [up_length]; omega
  rw [List.take_succ_eq_append_getElem hk, up_get, dif_pos h]
theorem up_take2 (L : List Int) (k : Nat) (h : 2 * k < L.length) (h2 : ¬ 2 * k + 1 < L.length) : (up L).take (k + 1) = (up L).take k ++ [L[2 * k]] := by
  have hk : k < (up L).length := by rw [up_length]; omega
  rw [List.take_succ_eq_append_getElem hk, up_get, dif_neg h2]
set_option maxRecDepth 100000 in
set_option maxHeartbeats 1000000 in
theorem l12Up_c (A : Option Addr) (n c lo hi : Nat) (L : List Int) (w : World) (hn : n = L.length) (hb : n ≤ 16) (hs : Sl encI 1 w lo hi A L) (hhi : hi ≤ w.heap.size) (hL : ∀ a ∈ L, Sum a) :
    Calls Tryd.prog 49 #[.slice A n c] w fun e w' => ∃ v, e = .returned v ∧ Own encI 1 3 w' w.heap.size v (up L) ∧ Below w.heap.size w w' := by
  have hn' := hide hn
  have hL' := hide hL
  clear hn hL
  have ho0 := own_empty encI 1 3 w
  have hb0 : Below w.heap.size w (w.alloc (.cells #[] 3)) := (Below.refl _ _).alloc (Nat.le_refl _) _
  go_enter Tryd.func49, Tryd.ntmps49
  go_wp2
  go_loopw [3, 4] (fun ov iv wr => ∃ k : Nat, 2 * k ≤ n + 1 ∧ iv = .int .i64 ((2 * k : Nat) : Int) ∧ Own encI 1 3 wr w.heap.size ov ((up L).take k) ∧ Below w.heap.size w wr) (fun _ iv _ => n + 1 - (intOf iv).toNat)
  case atStart => exact ⟨0, by omega, rfl, ho0, hb0⟩
  case round =>
    obtain ⟨k, hk, rfl, ho, hbr⟩ := hrel
    have e2k : ((2 * k : Nat) : Int) = 2 * (k : Int) := by omega
    by_cases hlt : 2 * k < n
    · have hlx : 2 * k < L.length := by have := hn'.out; omega
      obtain ⟨b, off, rfl, hlo, hbh⟩ := hs.addr hlx
      have hlen : Hid (((up L).take k).length ≤ 16) := hide (by rw [List.length_take]; omega)
      have a1 := (hs.below hbr hhi).i64 hlx
      have g1 : decide ((2 : Int) * (k : Int) < (n : Int)) = true := by simp only [decide_eq_true_eq]; omega
      have t1 : ((2 : Int) * (k : Int)).toNat = 2 * k := by omega
      by_cases h1 : 2 * k + 1 < n
      · have hlx1 : 2 * k + 1 < L.length := by have := hn'.out; omega
        have a2 := (hs.below hbr hhi).i64 hlx1
        have g2 : decide ((2 : Int) * (k : Int) + 1 < (n : Int)) = true := by simp only [decide_eq_true_eq]; omega
        have t2 : ((2 : Int) * (k : Int) + 1).toNat = 2 * k + 1 := by omega
        have hS1 := (hL'.out _ (List.getElem_mem hlx)).i64
        have hS2 := (hL'.out _ (List.getElem_mem hlx1)).i64
        have htk := hide (up_take1 L k hlx1)
        go_wp2
        refine wp_region_T (fun _ => True) [] [] [] [0, 1, 2, 3, 4, 5, 6, 7, 8, 9, 10, 11, 12, 13] (by kernel_rfl) (by kernel_rfl) (by kernel_rfl) trivial ?_; simp only [pickL, List.getElem?_cons_succ, List.getElem?_cons_zero]
        go_wp2_with (first
          | (go_at_call 62; refine (l12Node_c L[2 * k] L[2 * k + 1] hS1.1 hS1.2 hS2.1 hS2.2 wr.drew).mono ?_; rintro e w1 ⟨rfl, hb1⟩; have hb1' : Below wr.heap.size wr w1 := (Below.drew (Below.refl _ wr)).trans hb1; have ho1 := ho.below hb1' (Nat.le_refl _); have hsl1 := sl_oneI w1 (nodeS L[2 * k] L[2 * k + 1]))
          | ((first | (with_reducible refine wpT_x0 ?_ ?_ ?_) | (with_reducible refine wpT_xs0 ?_ ?_ ?_)); (focus rfl); (focus rfl); intro K hK; refine wp_appG encI_len (by omega) encI_one _ _ 22 rfl 3 _ 8 Tryd.underlying22 infoI rfl w.heap.size _ ((up L).take k) rfl (ho1.alloc _) 0 _ _ [nodeS L[2 * k] L[2 * k + 1]] _ _ rfl rfl hsl1 (by have := hlen.out; simp only [List.length_singleton, maxLen]; omega) (by have := hbr.size; have := hb1'.size; simp; omega) ?_; intro v2 w2 ho2 hg2 hb2 hloc; rw [← htk.out] at ho2; have hb3 : Below w.heap.size w w2 := (hbr.trans (hb1'.mono hbr.size)).trans (((Below.refl w1.heap.size w1).alloc (Nat.le_refl _) _ |>.mono (Nat.le_trans hbr.size hb1'.size)).trans hb2); obtain ⟨A2, n2, c2, rfl, hn2⟩ := ho2.shape; have hK := hK)
          | ((with_reducible refine wpT_q0 ?_ ?_ ?_ ?_); (focus rfl); (focus rfl); (focus rfl); intro K hK) | ((with_reducible refine wpT_x0 ?_ ?_ ?_); (focus rfl); (focus rfl); intro K hK) | ((with_reducible refine wpT_noL ?_ ?_); (focus (first | exact wanted_no _ _ _ rfl rfl rfl | exact wanted_un _ _ _ rfl rfl rfl)); simp only [setO, List.set_cons_succ, List.set_cons_zero]) | ((with_reducible refine wpT_q1 ?_ ?_ ?_ ?_); (focus exact wanted_yes _ _ _ rfl rfl rfl); (focus rfl); (focus rfl); intro K hK) | ((with_reducible refine wpT_x1 ?_ ?_ ?_); (focus exact wanted_yes _ _ _ rfl rfl rfl); (focus rfl); intro K hK) | ((with_reducible refine wpT_nil ?_); try dsimp only)
          | fail)
        go_roundw
        case rel => exact ⟨k + 1, by omega, by go_num, ho2, hb3⟩
        case measure => simp [intOf]; omega
      · have g2 : decide ((2 : Int) * (k : Int) + 1 < (n : Int)) = false := by simp only [decide_eq_false_iff_not]; omega
        have htk := hide (up_take2 L k hlx (by have := hn'.out; omega))
        have hsl1 := sl_oneI wr L[2 * k]
        go_wp2_with (at_builtin; refine wpList_appG encI_len (by omega) encI_one rfl _ _ 22 rfl 3 _ 8 Tryd.underlying22 infoI rfl w.heap.size _ ((up L).take k) rfl (ho.alloc _) 0 _ _ [L[2 * k]] _ _ rfl rfl hsl1 ?h2 ?h3 ?_)
        case h2 => have := hlen.out; simp only [List.length_singleton, maxLen]; omega
        case h3 => have := hbr.size; simp; omega
        intro v2 w2 ho2 hg2 hb2 hloc
        rw [← htk.out] at ho2
        have hb3 : Below w.heap.size w w2 := hbr.trans (((Below.refl wr.heap.size wr).alloc (Nat.le_refl _) _ |>.mono hbr.size).trans hb2)
        obtain ⟨A2, n2, c2, rfl, hn2⟩ := ho2.shape
        go_wp2
        go_roundw
        case rel => exact ⟨k + 1, by omega, by go_num, ho2, hb3⟩
        case measure => simp [intOf]; omega
    · have g1 : decide ((2 : Int) * (k : Int) < (n : Int)) = false := by simp only [decide_eq_false_iff_not]; omega
      rw [List.take_of_length_le (by rw [up_length, ← hn'.out]; omega)] at ho
      obtain ⟨A2, n2, c2, rfl, hn2⟩ := ho.shape
      go_wp2
      go_ret
      exact ⟨_, rfl, ho, hbr⟩
end Go.Proofs.YtjhgcppjpolamaaDoor
