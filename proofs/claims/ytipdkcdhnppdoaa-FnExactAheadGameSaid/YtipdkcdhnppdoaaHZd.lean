/-
  'GameFold' of the program with its result owned. (Printed by gen_hzd.py.)
  Conditions: none.
-/
import Derived.Test.YtipdkcdhnppdoaaHZc
namespace Go.Proofs.Ytipdkcdhnppdoaa
open Go.RowKit Rg
set_option linter.unusedVariables false
set_option linter.unusedSimpArgs false

theorem emptyO (w : World) (lo : Nat) : GmO w lo none 0 0 none 0 0 none 0 0 emptyG := ⟨Own.nil_ _ _ _ _ _, Own.nil_ _ _ _ _ _, Own.nil_ _ _ _ _ _, (fun k hk => by simp [Value.ownBlock] at hk), (fun k hk => by simp [Value.ownBlock] at hk), (fun k hk => by simp [Value.ownBlock] at hk)⟩
theorem OwP.empty {w w' : World} {lo : Nat} (hB : Below w.heap.size w w') : OwP w lo emptyG (.returned (.agg #[.slice none 0 0, .slice none 0 0, .slice none 0 0])) w' := ⟨none, 0, none, 0, none, 0, rfl, emptyO _ _, hB⟩
set_option maxRecDepth 100000 in
set_option maxHeartbeats 2000000 in
theorem GameFoldO_c (A : Option Addr) (n c lo hi : Nat) (rs : List ReqT) (w : World) (hn : n = rs.length) (hb : n ≤ 1048576) (hs : Sl encReq 5 w lo hi A rs) (hsr : RdN 5 (flatR encReq) w lo hi A n c rs) (hhi : hi ≤ w.heap.size) :
    Calls Try.prog 9 #[.slice A n c] w fun e w' => OwP w w.heap.size (foldRes rs) e w' := by
  have hn' := hide hn
  clear hn
  have hA0 := (Below.refl w.heap.size w).alloc (Nat.le_refl _) (.cells #[.slice none 0 0, .slice none 0 0, .slice none 0 0] 27)
  have hr0 := Bx3.made w (.slice none 0 0) (.slice none 0 0) (.slice none 0 0) 27
  have hr0' := hide hr0
  have hs1 := hide (hs.below hA0 hhi)
  have hsr1 := hide (hsr.below (flat_kept encReq) hA0 hhi)
  have hz1 : w.heap.size + 1 ≤ (w.alloc (.cells #[.slice none 0 0, .slice none 0 0, .slice none 0 0] 27)).heap.size := by simp only [World.size_alloc]; omega
  clear hr0 hs hsr
  by_cases hl : n ≤ 60
  · have hdl : decide ((60 : Int) < (n : Int)) = false := decide_eq_false (by omega)
    cases ha : rs.all okN
    · have hres := hide (show foldRes rs = emptyG by unfold foldRes; rw [if_neg]; rintro ⟨h, _⟩; rw [ha] at h; cases h)
      go_enter Try.func9, Try.ntmps9
      go_wp2_with fail
      generalize w.alloc (.cells #[.slice none 0 0, .slice none 0 0, .slice none 0 0] 27) = w1 at *
      refine (allOk_c A n c lo hi rs w1 hsr1.out (by omega)).mono ?_
      rintro e w2 ⟨rfl, hb2⟩
      rw [ha]
      have hrr := hr0'.out.below hb2 hr0'.out.lt
      obtain ⟨yy0, yy1, yy2, yg0, yg1, yg2⟩ := hrr.cells
      go_wp2
      refine bodyPost_ret (v := .agg #[.slice none 0 0, .slice none 0 0, .slice none 0 0]) (by simp [results, Try.results9, go_sem, yy0, yy1, yy2, yg0, yg1, yg2]) rfl ?_
      rw [hres.out]
      exact OwP.empty (((((hA0.trans (hb2.mono (by omega))).setCell (p := ⟨w.heap.size, 0, none⟩) (Nat.le_refl _) _).setCell (p := ⟨w.heap.size, 1, none⟩) (Nat.le_refl _) _).setCell (p := ⟨w.heap.size, 2, none⟩) (Nat.le_refl _) _))
    · have hres := hide (show foldRes rs = foldG newG rs by unfold foldRes; rw [if_pos ⟨ha, by have := hn'.out; omega⟩])
      have hall := hide (show ∀ r ∈ rs, okNA r from fun r hr => (okN_iff r).1 (List.all_eq_true.1 ha r hr))
      go_enter Try.func9, Try.ntmps9
      go_wp2_with fail
      generalize w.alloc (.cells #[.slice none 0 0, .slice none 0 0, .slice none 0 0] 27) = w1 at *
      refine (allOk_c A n c lo hi rs w1 hsr1.out (by omega)).mono ?_
      rintro e w2 ⟨rfl, hb2⟩
      rw [ha]
      have hz2 := hb2.size
      go_wp2_with fail
      refine (GameNewO_c w2).mono ?_
      rintro e w3 ⟨A3, n3, B3, p3, E3, q3, rfl, hg3, hb3⟩
      have hz3 := hb3.size
      go_wp2_with fail
      refine (playedO_c A3 n3 B3 p3 E3 q3 w2.heap.size newG A n c lo hi rs w3 hg3 hz3 (fun k => foldG_ok hall.out k) hn'.out hb ((hs1.out.below hb2 (by omega)).below hb3 (by omega)) (by omega) hall.out).mono ?_
      rintro e w4 ⟨A4, n4, B4, p4, E4, q4, rfl, hg4, hb4⟩
      have hbb : Below w1.heap.size w1 w4 := (hb2.trans (hb3.mono hz2)).trans (hb4.mono (by omega))
      have hrr := hr0'.out.below hbb hr0'.out.lt
      obtain ⟨yy0, yy1, yy2, yg0, yg1, yg2⟩ := hrr.cells
      have hg4h := hide hg4
      clear hg4 hg3
      go_wp2
      refine bodyPost_ret (v := .agg #[.slice A4 n4 n4, .slice B4 p4 p4, .slice E4 q4 q4]) (by simp [results, Try.results9, go_sem, yy0, yy1, yy2, yg0, yg1, yg2]) rfl ?_
      rw [hres.out]
      have hO : Onl w.heap.size w.heap.size w4 (((w4.setCell ⟨w.heap.size, 0, none⟩ (.slice A4 n4 n4)).setCell ⟨w.heap.size, 1, none⟩ (.slice B4 p4 p4)).setCell ⟨w.heap.size, 2, none⟩ (.slice E4 q4 q4)) := by (repeat (first | (with_reducible exact Onl.refl _ _ _) | (with_reducible exact Onl.drewL _ _ _) | (with_reducible refine Onl.set ?_ (by simp) _) | with_reducible refine Onl.drew ?_))
      exact ⟨A4, n4, B4, p4, E4, q4, rfl, (hg4h.out.keep (fun b hb _ => hO.blk b (by omega) (by omega))).mono (by omega), hO.bel _ _ (Nat.le_refl _) (Nat.le_refl _) (hA0.trans (hbb.mono (by omega)))⟩
  · have hdl : decide ((60 : Int) < (n : Int)) = true := decide_eq_true (by omega)
    have hres := hide (show foldRes rs = emptyG by unfold foldRes; rw [if_neg]; rintro ⟨_, h⟩; have := hn'.out; omega)
    go_enter Try.func9, Try.ntmps9
    go_wp2
    refine bodyPost_ret (v := .agg #[.slice none 0 0, .slice none 0 0, .slice none 0 0]) (by simp [results, Try.results9, go_sem]) rfl ?_
    rw [hres.out]
    exact OwP.empty (by first | exact ((((hA0.setCell (p := ⟨w.heap.size, 0, none⟩) (Nat.le_refl _) _).setCell (p := ⟨w.heap.size, 1, none⟩) (Nat.le_refl _) _).setCell (p := ⟨w.heap.size, 2, none⟩) (Nat.le_refl _) _)) | exact (Below.refl w.heap.size w).alloc (Nat.le_refl _) _)
end Go.Proofs.Ytipdkcdhnppdoaa
