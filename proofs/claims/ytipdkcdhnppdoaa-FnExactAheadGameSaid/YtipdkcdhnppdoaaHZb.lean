/-
  'GameNew' with its result owned. (Printed by gen_hzb.py.)
  Conditions: none.
-/
import Derived.Test.YtipdkcdhnppdoaaHZa
namespace Go.Proofs.Ytipdkcdhnppdoaa
open Go.RowKit Rg
set_option linter.unusedVariables false
set_option linter.unusedSimpArgs false

/-- A call leaves a game of its own. -/
def OwPost (w : World) (g : GameT) (e : Ending) (w' : World) : Prop := ∃ (A : Option Addr) (n : Nat) (B : Option Addr) (p : Nat) (E : Option Addr) (q : Nat),
  e = .returned (.agg #[.slice A n n, .slice B p p, .slice E q q]) ∧ GmO w' w.heap.size A n n B p p E q q g ∧ Below w.heap.size w w'
set_option maxRecDepth 100000 in
set_option maxHeartbeats 2000000 in
theorem GameNewO_c (w : World) : Calls Try.prog 30 #[] w fun e w' => OwPost w newG e w' := by
  have hmk16 : ∀ W, (Instr.makeSlice 25 (.int .i64 16) (.int .i64 16)).run Try.prog W = .ok (.slice (some ⟨W.heap.size, 0, none⟩) 16 16) (W.alloc (.cells (madeCells #[.int .i64 0] 16) 3)) := fun W => makeI_c 16 (by omega) W
  have hmk4 : ∀ W, (Instr.makeSlice 25 (.int .i64 4) (.int .i64 4)).run Try.prog W = .ok (.slice (some ⟨W.heap.size, 0, none⟩) 4 4) (W.alloc (.cells (madeCells #[.int .i64 0] 4) 3)) := fun W => makeI_c 4 (by omega) W
  go_enter Try.func30, Try.ntmps30
  go_wp2
  refine Code.wp_mono (Q := NewC w (fun bx b1 b2 => { tmps := #[.pointer (some ⟨w.heap.size, 0, none⟩), .pointer (some ⟨bx, 0, none⟩), undef, .slice (some ⟨b1, 0, none⟩) 16 16, .slice (some ⟨b2, 0, none⟩) 4 4, .agg #[.slice none 0 0, .slice (some ⟨b1, 0, none⟩) 16 16, .slice (some ⟨b2, 0, none⟩) 4 4], undef, undef, undef, undef, undef, undef, undef, undef, undef, undef, undef, undef, undef, undef, undef, undef, undef], defers := [] })) ?_ ?_
  rotate_left
  · refine wp_region_O (fun _ => True) [] [5] [] (Ord.seg [] (Ord.three 0 1 3 (Ord.seg [] (Ord.both 1 3 (Ord.seg [] (Ord.both 2 3 (Ord.seg [3, 4] Ord.done) (Ord.seg [2, 4] Ord.done))) (Ord.seg [1, 2, 4] Ord.done))) (Ord.seg [] (Ord.both 0 3 (Ord.seg [] (Ord.both 2 3 (Ord.seg [3, 4] Ord.done) (Ord.seg [2, 4] Ord.done))) (Ord.seg [0, 2, 4] Ord.done))) (Ord.seg [] (Ord.both 0 1 (Ord.seg [1, 2, 4] Ord.done) (Ord.seg [0, 2, 4] Ord.done))))) (by kernel_rfl) (by kernel_rfl) (by kernel_rfl) trivial ?_
    go_wp2_with (first
      | ((with_reducible refine wpO_seg ?_); simp only [pickL, List.toList_toArray, List.getElem?_cons_succ, List.getElem?_cons_zero]) | ((with_reducible refine wpO_both ?_ ?_) <;> simp only [pickL, List.toList_toArray, List.getElem?_cons_succ, List.getElem?_cons_zero]) | ((with_reducible refine wpO_three ?_ ?_ ?_) <;> simp only [pickL, List.toList_toArray, List.getElem?_cons_succ, List.getElem?_cons_zero]) | ((with_reducible refine wpO_done ?_); try dsimp only) | ((with_reducible refine wpT_q0 ?_ ?_ ?_ ?_); (focus rfl); (focus rfl); (focus rfl); intro K hK) | ((with_reducible refine wpT_x0 ?_ ?_ ?_); (focus rfl); (focus rfl); intro K hK) | ((with_reducible refine wpT_noL ?_ ?_); (focus (first | exact wanted_no _ _ _ rfl rfl rfl | exact wanted_un _ _ _ rfl rfl rfl)); simp only [setO, List.set_cons_succ, List.set_cons_zero]) | ((with_reducible refine wpT_q1 ?_ ?_ ?_ ?_); (focus exact wanted_yes _ _ _ rfl rfl rfl); (focus rfl); (focus rfl); intro K hK) | ((with_reducible refine wpT_x1 ?_ ?_ ?_); (focus exact wanted_yes _ _ _ rfl rfl rfl); (focus rfl); intro K hK) | ((with_reducible refine wpT_nil ?_); try dsimp only)
      | fail)
    all_goals
      refine ⟨rfl, _, _, _, rfl, hide (by first | omega | (simp only [World.size_alloc, World.size_drew]; omega)), ?_, ?_, ?_, ?_, ?_⟩
      · (focus (repeat (first | ((with_reducible refine Bx3.newE ?_); (focus (first | rfl | (simp; done) | (simp; omega) | omega))) | (with_reducible refine Bx3.drew ?_) | (with_reducible refine Bx3.alloc ?_ _))))
      · (focus (repeat (first | ((with_reducible refine Bx3.newE ?_); (focus (first | rfl | (simp; done) | (simp; omega) | omega))) | (with_reducible refine Bx3.drew ?_) | (with_reducible refine Bx3.alloc ?_ _))))
      · (focus (repeat (first | ((with_reducible refine ownI_made 16 (by omega) ?_ ?_); (focus (first | rfl | (simp; done) | (simp; omega) | omega)); (focus (first | (simp; done) | (simp; omega) | omega))) | (with_reducible refine Own.drew ?_) | (with_reducible refine Own.alloc ?_ _))))
      · (focus (repeat (first | ((with_reducible refine ownI_made 4 (by omega) ?_ ?_); (focus (first | rfl | (simp; done) | (simp; omega) | omega)); (focus (first | (simp; done) | (simp; omega) | omega))) | (with_reducible refine Own.drew ?_) | (with_reducible refine Own.alloc ?_ _))))
      · (focus (repeat (first | (with_reducible exact Below.refl _ _) | (with_reducible refine Below.drew ?_) | (with_reducible refine Below.allocR ?_ _))))
  · rintro x a w1 ⟨rfl, bx, b1, b2, rfl, hne, hr0, hbx, ho1, ho2, hb1⟩
    have ho1 : Own encI 1 3 w1 (w.heap.size + 1) (.slice (some ⟨b1, 0, none⟩) 16 16) (flo 0) := ho1
    have hbx' := hide hbx
    have hr0' := hide hr0
    obtain ⟨xx0, xx1, xx2, xf0, xf1, xf2⟩ := hbx.cells
    have hlx := hbx.lt
    clear hbx hr0
    go_wp2
    go_loopw [6] (fun i wr => ∃ k : Nat, k ≤ 20 ∧ i = .int .i64 (k : Int) ∧ Own encI 1 3 wr (w.heap.size + 1) (.slice (some ⟨b1, 0, none⟩) 16 16) (flo k) ∧ Onl b1 b1 w1 wr) (fun i _ => 20 - (intOf i).toNat)
    case atStart => exact ⟨0, by omega, rfl, ho1, Onl.refl _ _ _⟩
    case round =>
      obtain ⟨k, hk, rfl, hor, hon⟩ := hrel
      have hne' := hne.out
      have hbr := hbx'.out.keep (hon.blk bx (by omega) (by omega))
      have hsz := hon.size
      clear xx0 xx1 xx2 xf0 xf1 xf2
      obtain ⟨xx0, xx1, xx2, xf0, xf1, xf2⟩ := hbr.cells
      have hlxr := hbr.lt
      by_cases hlt : k < 20
      · obtain ⟨j, hj⟩ : ∃ j, j = k * 5 % 16 := ⟨_, rfl⟩
        have hj16 : j < 16 := by omega
        have hjl : j < (flo k).length := by rw [flo_len]; exact hj16
        have hrem : ((5 * (k : Int)).tmod 16) = (j : Int) := by rw [show 5 * (k : Int) = ((k * 5 : Nat) : Int) by omega]; exact (Int.ofNat_tmod (k * 5) 16).symm.trans (by rw [hj])
        have a1 := (hor.slAt encI_len).2.2.i64 hjl
        simp only [Nat.zero_add] at a1
        have f1 := hor.frozen j
        have hfl := flo_le k _ (List.getElem_mem hjl)
        have hg1 := (hor.lt b1 (by simp [Value.ownBlock])).2
        have hsucc := hide (show flo (k + 1) = (flo k).set j ((flo k)[j] + 1) by rw [flo_succ, ← hj, getD_at hjl])
        have hjh := hide hj
        clear hj
        go_wp2
        refine wp_region_T (fun _ => True) [] [] [] [0, 1, 2, 3, 4, 5, 6, 7, 8, 9, 10, 11, 12] (by kernel_rfl) (by kernel_rfl) (by kernel_rfl) trivial ?_; simp only [pickL, List.getElem?_cons_succ, List.getElem?_cons_zero]
        go_wp2_with (first
          | ((with_reducible refine wpT_q0 ?_ ?_ ?_ ?_); (focus rfl); (focus rfl); (focus rfl); intro K hK) | ((with_reducible refine wpT_x0 ?_ ?_ ?_); (focus rfl); (focus rfl); intro K hK) | ((with_reducible refine wpT_noL ?_ ?_); (focus (first | exact wanted_no _ _ _ rfl rfl rfl | exact wanted_un _ _ _ rfl rfl rfl)); simp only [setO, List.set_cons_succ, List.set_cons_zero]) | ((with_reducible refine wpT_q1 ?_ ?_ ?_ ?_); (focus exact wanted_yes _ _ _ rfl rfl rfl); (focus rfl); (focus rfl); intro K hK) | ((with_reducible refine wpT_x1 ?_ ?_ ?_); (focus exact wanted_yes _ _ _ rfl rfl rfl); (focus rfl); intro K hK) | ((with_reducible refine wpT_nil ?_); try dsimp only)
          | fail)
        go_roundw
        case rel =>
          refine ⟨k + 1, by omega, by go_num, ?_, (hon.drew).set (.inl rfl) _⟩
          rw [hsucc.out]
          have h9 := hor.put1 encI_len hjl ((flo k)[j] + 1) 0 (by omega) (.int .i64 ((flo k)[j] + 1)) rfl
          rw [Nat.mul_one, Nat.add_zero] at h9
          exact h9
        case measure => simp [intOf]; omega
      · obtain rfl : k = 20 := by omega
        have hr0r := hr0'.out.keep (hon.blk w.heap.size (by omega) (by omega))
        obtain ⟨yy0, yy1, yy2, yg0, yg1, yg2⟩ := hr0r.cells
        have hlyr := hr0r.lt
        have hnn := hide hne'
        go_wp2
        refine bodyPost_ret (v := .agg #[.slice none 0 0, .slice (some ⟨b1, 0, none⟩) 16 16, .slice (some ⟨b2, 0, none⟩) 4 4]) (by simp [results, Try.results30, go_sem, yy0, yy1, yy2, yg0, yg1, yg2]) rfl ?_
        have hO : Onl w.heap.size w.heap.size wr (((wr.setCell ⟨w.heap.size, 0, none⟩ (.slice none 0 0)).setCell ⟨w.heap.size, 1, none⟩ (.slice (some ⟨b1, 0, none⟩) 16 16)).setCell ⟨w.heap.size, 2, none⟩ (.slice (some ⟨b2, 0, none⟩) 4 4)) := by (repeat (first | (with_reducible exact Onl.refl _ _ _) | (with_reducible exact Onl.drewL _ _ _) | (with_reducible refine Onl.set ?_ (by simp) _) | with_reducible refine Onl.drew ?_))
        have hla : Own encI 1 3 wr (w.heap.size + 1) (.slice (some ⟨b2, 0, none⟩) 4 4) (List.replicate 4 0) := ho2.keep (w' := wr) (fun b hb => hon.blk b (by simp [Value.ownBlock] at hb; omega) (by simp [Value.ownBlock] at hb; omega))
        have hG : GmO wr (w.heap.size + 1) none 0 0 (some ⟨b1, 0, none⟩) 16 16 (some ⟨b2, 0, none⟩) 4 4 newG := ⟨(by simp [newG, Own]), (by rw [← flo_20]; exact hor), hla, (fun k hk => by simp [Value.ownBlock] at hk), (fun k hk => by simp [Value.ownBlock] at hk), (fun k hk => by simp [Value.ownBlock] at hk ⊢; omega)⟩
        exact ⟨none, 0, some ⟨b1, 0, none⟩, 16, some ⟨b2, 0, none⟩, 4, rfl, (hG.keep (fun b hb _ => hO.blk b (by omega) (by omega))).mono (by omega), hO.bel _ _ (Nat.le_refl _) (Nat.le_refl _) (hon.bel _ _ (by omega) (by omega) hb1)⟩
end Go.Proofs.Ytipdkcdhnppdoaa
