/-
  The new game: 'l2New', 'GameNew'. (Printed by gen_hl.py.)
  Conditions: none.
-/
import Derived.Test.YtajmfonepnkofaaDoorHK
namespace Go.Proofs.YtajmfonepnkofaaDoor
open Go.RowKit Rg
set_option linter.unusedVariables false
set_option linter.unusedSimpArgs false

/-- The floor behind so many pieces of gold. -/
def flo (k : Nat) : List Int := (List.range k).foldl (fun l i => l.set (i * 5 % 16) (l.getD (i * 5 % 16) 0 + 1)) (List.replicate 16 0)
theorem flo_succ (k : Nat) : flo (k + 1) = (flo k).set (k * 5 % 16) ((flo k).getD (k * 5 % 16) 0 + 1) := by
  unfold flo; rw [List.range_succ, List.foldl_append]; rfl
theorem flo_len : ∀ k, (flo k).length = 16
  | 0 => rfl
  | k + 1 => by rw [flo_succ, List.length_set, flo_len k]
theorem flo_20 : flo 20 = newG.2.1 := by decide +kernel
theorem flo_le : ∀ (k : Nat), ∀ x ∈ flo k, 0 ≤ x ∧ x ≤ (k : Int)
  | 0, x, h => by
    have : x = 0 := List.eq_of_mem_replicate h
    subst this; simp
  | k + 1, x, h => by
    rw [flo_succ] at h
    rcases List.mem_or_eq_of_mem_set h with h | h
    · have := flo_le k x h; omega
    · have hl : k * 5 % 16 < (flo k).length := by rw [flo_len]; omega
      have := flo_le k _ (getD_mem (d := (0 : Int)) hl)
      omega
/-- The boxes of 'l2New': three blocks in any order. -/
def NewC (w : World) (a0 : Nat → Nat → Nat → Act) (x : Exit) (a : Act) (w' : World) : Prop := x = .normal ∧ ∃ bx b1 b2 : Nat, a = a0 bx b1 b2 ∧
  Hid (w.heap.size < bx ∧ w.heap.size < b1 ∧ w.heap.size < b2 ∧ bx ≠ b1 ∧ bx ≠ b2 ∧ b1 ≠ b2) ∧ Bx3 w' w.heap.size (.slice none 0 0) (.slice none 0 0) (.slice none 0 0) 35 ∧ Bx3 w' bx (.slice none 0 0) (.slice (some ⟨b1, 0, none⟩) 16 16) (.slice (some ⟨b2, 0, none⟩) 4 4) 35 ∧
  Own encI 1 3 w' (w.heap.size + 1) (.slice (some ⟨b1, 0, none⟩) 16 16) (List.replicate 16 0) ∧ Own encI 1 3 w' (w.heap.size + 1) (.slice (some ⟨b2, 0, none⟩) 4 4) (List.replicate 4 0) ∧ Below w.heap.size w w'
theorem makeI_c (n : Nat) (hn : n ≤ 1000) (W : World) : (Instr.makeSlice 23 (.int .i64 (n : Int)) (.int .i64 (n : Int))).run Tryd.prog W = .ok (.slice (some ⟨W.heap.size, 0, none⟩) n n) (W.alloc (.cells (madeCells #[.int .i64 0] n) 3)) := by
  have h := run_make_n (P := Tryd.prog) 23 3 (info_parts infoI).choose _ Tryd.underlying23 (info_parts infoI).choose_spec.1 (info_parts infoI).choose_spec.2.1 .i64 .i64 n (by rw [(info_parts infoI).choose_spec.2.2.2]; omega) (by omega) W
  rw [(info_parts infoI).choose_spec.2.2.1, Nat.mul_one] at h
  exact h
theorem Bx3.newE {w : World} {b : Nat} {v0 v1 v2 : Value} {t : TypeId} (h : b = w.heap.size) : Bx3 (w.alloc (.cells #[v0, v1, v2] t)) b v0 v1 v2 t := by rw [h]; exact Bx3.made w v0 v1 v2 t
theorem Bx3.alloc {w : World} {b : Nat} {v0 v1 v2 : Value} {t : TypeId} (h : Bx3 w b v0 v1 v2 t) (o : Obj) : Bx3 (w.alloc o) b v0 v1 v2 t := h.below ((Below.refl _ _).alloc (Nat.le_refl _) o) h.lt
theorem Bx3.drew {w : World} {b : Nat} {v0 v1 v2 : Value} {t : TypeId} (h : Bx3 w b v0 v1 v2 t) : Bx3 w.drew b v0 v1 v2 t := h
theorem ownI_made {w : World} {b lo : Nat} (n : Nat) (hn : n ≤ 1000) (h : b = w.heap.size) (hlo : lo ≤ b) : Own encI 1 3 (w.alloc (.cells (madeCells #[.int .i64 0] n) 3)) lo (.slice (some ⟨b, 0, none⟩) n n) (List.replicate n 0) := by
  subst h
  have := own_made encI_len (by omega) 3 w lo n 0 (.int .i64 0) rfl hlo (by unfold maxLen; omega)
  rw [Nat.mul_one] at this
  exact this

set_option maxRecDepth 100000 in
set_option maxHeartbeats 2000000 in
theorem l2New_c (w : World) : Calls Tryd.prog 97 #[] w fun e w' => GmPost w (fun _ => False) newG e w' := by
  have hmk16 : ∀ W, (Instr.makeSlice 23 (.int .i64 16) (.int .i64 16)).run Tryd.prog W = .ok (.slice (some ⟨W.heap.size, 0, none⟩) 16 16) (W.alloc (.cells (madeCells #[.int .i64 0] 16) 3)) := fun W => makeI_c 16 (by omega) W
  have hmk4 : ∀ W, (Instr.makeSlice 23 (.int .i64 4) (.int .i64 4)).run Tryd.prog W = .ok (.slice (some ⟨W.heap.size, 0, none⟩) 4 4) (W.alloc (.cells (madeCells #[.int .i64 0] 4) 3)) := fun W => makeI_c 4 (by omega) W
  go_enter Tryd.func97, Tryd.ntmps97
  go_wp2
  refine Code.wp_mono (Q := NewC w (fun bx b1 b2 => { tmps := #[.pointer (some ⟨w.heap.size, 0, none⟩), .pointer (some ⟨bx, 0, none⟩), undef, undef, .slice (some ⟨b1, 0, none⟩) 16 16, .slice (some ⟨b2, 0, none⟩) 4 4, .agg #[.slice none 0 0, .slice (some ⟨b1, 0, none⟩) 16 16, .slice (some ⟨b2, 0, none⟩) 4 4], undef, undef, undef, undef, undef, undef, undef, undef, undef, undef, undef, undef, undef, undef, undef, undef, undef, undef, undef, undef, undef], defers := [] })) ?_ ?_
  rotate_left
  · refine wp_region_O (fun _ => True) [] [6] [] (Ord.seg [] (Ord.three 0 1 3 (Ord.seg [] (Ord.both 1 3 (Ord.seg [] (Ord.both 2 3 (Ord.seg [3, 4] Ord.done) (Ord.seg [2, 4] Ord.done))) (Ord.seg [1, 2, 4] Ord.done))) (Ord.seg [] (Ord.both 0 3 (Ord.seg [] (Ord.both 2 3 (Ord.seg [3, 4] Ord.done) (Ord.seg [2, 4] Ord.done))) (Ord.seg [0, 2, 4] Ord.done))) (Ord.seg [] (Ord.both 0 1 (Ord.seg [1, 2, 4] Ord.done) (Ord.seg [0, 2, 4] Ord.done))))) (by kernel_rfl) (by kernel_rfl) (by kernel_rfl) trivial ?_
    go_wp2_with (first
      | ((with_reducible refine wpO_seg ?_); simp only [pickL, List.toList_toArray, List.getElem?_cons_succ, List.getElem?_cons_zero]) | ((with_reducible refine wpO_both ?_ ?_) <;> simp only [pickL, List.toList_toArray, List.getElem?_cons_succ, List.getElem?_cons_zero]) | ((with_reducible refine wpO_three ?_ ?_ ?_) <;> simp only [pickL, List.toList_toArray, List.getElem?_cons_succ, List.getElem?_cons_zero]) | ((with_reducible refine wpO_done ?_); try dsimp only) | ((with_reducible refine wpT_q0 ?_ ?_ ?_ ?_); (focus rfl); (focus rfl); (focus rfl); intro K hK) | ((with_reducible refine wpT_x0 ?_ ?_ ?_); (focus rfl); (focus rfl); intro K hK) | ((with_reducible refine wpT_noL ?_ ?_); (focus (first | exact wanted_no _ _ _ rfl rfl rfl | exact wanted_un _ _ _ rfl rfl rfl)); simp only [setO, List.set_cons_succ, List.set_cons_zero]) | ((with_reducible refine wpT_q1 ?_ ?_ ?_ ?_); (focus exact wanted_yes _ _ _ rfl rfl rfl); (focus rfl); (focus rfl); intro K hK) | ((with_reducible refine wpT_x1 ?_ ?_ ?_); (focus exact wanted_yes _ _ _ rfl rfl rfl); (focus rfl); intro K hK) | ((with_reducible refine wpT_nil ?_); try dsimp only)
      | fail)
    all_goals
      refine ⟨rfl, _, _, _, rfl, hide (by first | omega | (simp only [World.size_alloc, World.size_drew]; omega)), ?_, ?_, ?_, ?_, ?_⟩
      · (focus (repeat (first | ((with_reducible refine Bx3.newE ?_); (focus (first | rfl | (simp; done) | (simp; omega) | omega))) | (with_reducible refine Bx3.drew ?_) | (with_reducible refine Bx3.alloc ?_ _))))
      · (focus (repeat (first | ((with_reducible refine Bx3.newE ?_); (focus (first | rfl | (simp; done) | (simp; omega) | omega))) | (with_reducible refine Bx3.drew ?_) | (with_reducible refine Bx3.alloc ?_ _))))
      · (focus (repeat (first | ((with_reducible refine ownI_made 16 (by omega) ?_ ?_); (focus (first | rfl | (simp; done) | (simp; omega) | omega)); (focus (first | (simp; done) | (simp; omega) | omega))) | (with_reducible refine Own.drew ?_) | (with_reducible refine Own.alloc ?_ _))))
      · (focus (repeat (first | ((with_reducible refine ownI_made 4 (by omega) ?_ ?_); (focus (first | rfl | (simp; done) | (simp; omega) | omega)); (focus (first | (simp; done) | (simp; omega) | omega))) | (with_reducible refine Own.drew ?_) | (with_reducible refine Own.alloc ?_ _))))
      · (focus (repeat (first | (with_reducible exact Below.refl _ _) | (with_reducible refine Below.drew ?_) | (with_reducible refine Below.allocR ?_ _))))
  · rintro x a w1 ⟨rfl, bx, b1, b2, rfl, hne, hr0, hbx, ho1, ho2, hb1⟩
    have ho1 : Own encI 1 3 w1 (w.heap.size + 1) (.slice (some ⟨b1, 0, none⟩) 16 16) (flo 0) := ho1
    have hbx' := hide hbx
    have hr0' := hide hr0
    obtain ⟨xx0, xx1, xx2, xf0, xf1, xf2⟩ := hbx.cells
    have hlx := hbx.lt
    clear hbx hr0
    go_wp2
    go_loopw [2] (fun i wr => ∃ k : Nat, k ≤ 20 ∧ i = .int .i64 (k : Int) ∧ Own encI 1 3 wr (w.heap.size + 1) (.slice (some ⟨b1, 0, none⟩) 16 16) (flo k) ∧ Onl b1 b1 w1 wr) (fun i _ => 20 - (intOf i).toNat)
    case atStart => exact ⟨0, by omega, rfl, ho1, Onl.refl _ _ _⟩
    case round =>
      obtain ⟨k, hk, rfl, hor, hon⟩ := hrel
      have hne' := hne.out
      have hbr := hbx'.out.keep (hon.blk bx (by omega) (by omega))
      have hsz := hon.size
      clear xx0 xx1 xx2 xf0 xf1 xf2
      obtain ⟨xx0, xx1, xx2, xf0, xf1, xf2⟩ := hbr.cells
      have hlxr := hbr.lt
      by_cases hlt : k < 20
      · obtain ⟨j, hj⟩ : ∃ j, j = k * 5 % 16 := ⟨_, rfl⟩
        have hj16 : j < 16 := by omega
        have hjl : j < (flo k).length := by rw [flo_len]; exact hj16
        have hrem : (((k : Int) * 5).tmod 16) = (j : Int) := by rw [show (k : Int) * 5 = ((k * 5 : Nat) : Int) by omega]; exact (Int.ofNat_tmod (k * 5) 16).symm.trans (by rw [hj])
        have a1 := (hor.slAt encI_len).2.2.i64 hjl
        simp only [Nat.zero_add] at a1
        have f1 := hor.frozen j
        have hfl := flo_le k _ (List.getElem_mem hjl)
        have hg1 := (hor.lt b1 (by simp [Value.ownBlock])).2
        have hsucc := hide (show flo (k + 1) = (flo k).set j ((flo k)[j] + 1) by rw [flo_succ, ← hj, getD_at hjl])
        have hjh := hide hj
        clear hj
        go_wp2
        refine wp_region_T (fun _ => True) [] [] [] [0, 1, 2, 3, 4, 5, 6, 7, 8, 9, 10] (by kernel_rfl) (by kernel_rfl) (by kernel_rfl) trivial ?_; simp only [pickL, List.getElem?_cons_succ, List.getElem?_cons_zero]
        go_wp2_with (first
          | ((with_reducible refine wpT_q0 ?_ ?_ ?_ ?_); (focus rfl); (focus rfl); (focus rfl); intro K hK) | ((with_reducible refine wpT_x0 ?_ ?_ ?_); (focus rfl); (focus rfl); intro K hK) | ((with_reducible refine wpT_noL ?_ ?_); (focus (first | exact wanted_no _ _ _ rfl rfl rfl | exact wanted_un _ _ _ rfl rfl rfl)); simp only [setO, List.set_cons_succ, List.set_cons_zero]) | ((with_reducible refine wpT_q1 ?_ ?_ ?_ ?_); (focus exact wanted_yes _ _ _ rfl rfl rfl); (focus rfl); (focus rfl); intro K hK) | ((with_reducible refine wpT_x1 ?_ ?_ ?_); (focus exact wanted_yes _ _ _ rfl rfl rfl); (focus rfl); intro K hK) | ((with_reducible refine wpT_nil ?_); try dsimp only)
          | fail)
        go_roundw
        case rel =>
          refine ⟨k + 1, by omega, by go_num, ?_, (hon.drew).set (.inl rfl) _⟩
          rw [hsucc.out]
          have h9 := hor.put1 encI_len hjl ((flo k)[j] + 1) 0 (by omega) (.int .i64 ((flo k)[j] + 1)) rfl
          rw [Nat.mul_one, Nat.add_zero] at h9
          exact h9
        case measure => simp [intOf]; omega
      · obtain rfl : k = 20 := by omega
        have hr0r := hr0'.out.keep (hon.blk w.heap.size (by omega) (by omega))
        obtain ⟨yy0, yy1, yy2, yg0, yg1, yg2⟩ := hr0r.cells
        have hlyr := hr0r.lt
        have hnn := hide hne'
        go_wp2
        refine bodyPost_ret (v := .agg #[.slice none 0 0, .slice (some ⟨b1, 0, none⟩) 16 16, .slice (some ⟨b2, 0, none⟩) 4 4]) (by simp [results, Tryd.results97, go_sem, yy0, yy1, yy2, yg0, yg1, yg2]) rfl ?_
        have hf := gm_fin (D := fun _ => False) (D' := fun b => w.heap.size + 1 ≤ b ∧ b < wr.heap.size) (x := w.heap.size) (y := w.heap.size) (w := w) (w9 := wr) (g := newG) (A := none) (n := 0) (c := 0) (w' := ((wr.setCell ⟨w.heap.size, 0, none⟩ (.slice none 0 0)).setCell ⟨w.heap.size, 1, none⟩ (.slice (some ⟨b1, 0, none⟩) 16 16)).setCell ⟨w.heap.size, 2, none⟩ (.slice (some ⟨b2, 0, none⟩) 4 4)) (by (repeat (first | (with_reducible exact Onl.refl _ _ _) | (with_reducible exact Onl.drewL _ _ _) | (with_reducible refine Onl.set ?_ (by simp) _) | with_reducible refine Onl.drew ?_))) (hon.bel _ _ (by omega) (by omega) hb1) (Nat.le_refl _) (Nat.le_refl _)
          ⟨⟨rfl, Nat.le_refl _, by simp [maxLen], fun h => absurd rfl h⟩, by rw [← flo_20]; exact hor.rdD encI_len (fun b h h' => ⟨h, h'⟩), (ho2.keep (w' := wr) (fun b hb => hon.blk b (by simp [Value.ownBlock] at hb; omega) (by simp [Value.ownBlock] at hb; omega))).rdD encI_len (fun b h h' => ⟨h, h'⟩), .inl ⟨rfl, rfl, rfl⟩⟩ (fun b hb => ⟨by omega, by omega, .inr ⟨by omega, hb.2⟩⟩)
        exact ⟨none, 0, 0, some ⟨b1, 0, none⟩, 16, 16, some ⟨b2, 0, none⟩, 4, 4, rfl, hf.1, hf.2⟩

end Go.Proofs.YtajmfonepnkofaaDoor
