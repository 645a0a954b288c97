/-
  'AheadSure' in both packages. (Printed by gen_hzk.py.)
  Conditions: none.
-/
import Derived.Test.YtipdkcdhnppdoaaHZj
namespace Go.Proofs.Ytipdkcdhnppdoaa
open Go.RowKit Rg
set_option linter.unusedVariables false
set_option linter.unusedSimpArgs false

def sureRes (ds ws : List ReqT) (k : Int) : GameT := if ahOk ds ws k then foldG newG ds else emptyG
def aheadRes (ds ws : List ReqT) (k : Int) : GameT := if ahOk ds ws k then foldG newG (ds ++ ws) else emptyG
theorem RdN.slR {w : World} {lo hi n c : Nat} {A : Option Addr} {ts : List ReqT} (h : RdN 5 (flatR encReq) w lo hi A n c ts) : Sl encReq 5 w 0 hi A ts := (h.rdD (D := fun b => lo ≤ b ∧ b < hi) (fun b h1 h2 => ⟨h1, h2⟩)).sl (fun b h => h.2)
theorem ahOk_all {ds ws : List ReqT} {k : Int} (h : ahOk ds ws k = true) : ∀ r ∈ ds ++ ws, okNA r := by
  unfold ahOk at h
  simp only [Bool.and_eq_true] at h
  intro r hr
  rcases List.mem_append.1 hr with h' | h'
  · exact (okN_iff r).1 (List.all_eq_true.1 h.1.1.1 r h')
  · exact (okN_iff r).1 (List.all_eq_true.1 h.1.1.2 r h')
set_option maxRecDepth 100000 in
set_option maxHeartbeats 2000000 in
theorem AheadSureS_c (A : Option Addr) (n c : Nat) (B : Option Addr) (m d : Nat) (k : Int) (lo hi : Nat) (ds ws : List ReqT) (w : World) (hsd : RdN 5 (flatR encReq) w lo hi A n c ds) (hsw : RdN 5 (flatR encReq) w lo hi B m d ws) (hn : n ≤ 1048576) (hm : m ≤ 1048576) (hhi : hi ≤ w.heap.size) :
    Calls Try.prog 21 #[.agg #[.slice A n c, .slice B m d, .int .i64 k]] w fun e w' => GmPost w (fun _ => False) (sureRes ds ws k) e w' := by
  have hAB : Below w.heap.size w ((w.alloc (.cells #[.slice A n c, .slice B m d, .int .i64 k] 41)).alloc (.cells #[.slice none 0 0, .slice none 0 0, .slice none 0 0] 27)) := ((Below.refl w.heap.size w).alloc (Nat.le_refl _) _).alloc (by simp) _
  have hx0 : Bx3 ((w.alloc (.cells #[.slice A n c, .slice B m d, .int .i64 k] 41)).alloc (.cells #[.slice none 0 0, .slice none 0 0, .slice none 0 0] 27)) w.heap.size (.slice A n c) (.slice B m d) (.int .i64 k) 41 := (Bx3.made w (.slice A n c) (.slice B m d) (.int .i64 k) 41).alloc _
  have hr0 : Bx3 ((w.alloc (.cells #[.slice A n c, .slice B m d, .int .i64 k] 41)).alloc (.cells #[.slice none 0 0, .slice none 0 0, .slice none 0 0] 27)) (w.heap.size + 1) (.slice none 0 0) (.slice none 0 0) (.slice none 0 0) 27 := Bx3.newE (by simp)
  have hz1 : w.heap.size + 2 ≤ ((w.alloc (.cells #[.slice A n c, .slice B m d, .int .i64 k] 41)).alloc (.cells #[.slice none 0 0, .slice none 0 0, .slice none 0 0] 27)).heap.size := by simp only [World.size_alloc]; omega
  have hsd1 := hide (hsd.below (flat_kept encReq) hAB hhi)
  have hsw1 := hide (hsw.below (flat_kept encReq) hAB hhi)
  have hnl := hide hsd.len
  have hml := hide hsw.len
  clear hsd hsw
  go_enter Try.func21, Try.ntmps21
  go_wp2_with fail
  generalize ((w.alloc (.cells #[.slice A n c, .slice B m d, .int .i64 k] 41)).alloc (.cells #[.slice none 0 0, .slice none 0 0, .slice none 0 0] 27)) = w1 at *
  refine (l8Ok_c A n c B m d k lo hi ds ws w1 hsd1.out hsw1.out hn hm (by omega)).mono ?_
  rintro e w2 ⟨rfl, hb2⟩
  have hz2 := hb2.size
  have hx2 := hx0.below hb2 hx0.lt
  have hr2 := hr0.below hb2 hr0.lt
  have hB2 := hAB.trans (hb2.mono (by omega))
  have hsd2 := hide (hsd1.out.below (flat_kept encReq) hb2 (by omega))
  have hsw2 := hide (hsw1.out.below (flat_kept encReq) hb2 (by omega))
  obtain ⟨xx0, xx1, xx2, -, -, -⟩ := hx2.cells
  obtain ⟨yy0, yy1, yy2, yg0, yg1, yg2⟩ := hr2.cells
  clear hsd1 hsw1 hb2
  cases ha : ahOk ds ws k
  · have hres := hide (show sureRes ds ws k = emptyG by unfold sureRes; rw [ha]; rfl)
    clear ha
    go_wp2
    refine bodyPost_ret (v := .agg #[.slice none 0 0, .slice none 0 0, .slice none 0 0]) (by simp [results, Try.results21, go_sem, yy0, yy1, yy2, yg0, yg1, yg2]) rfl ?_
    rw [hres.out]
    exact GmPost.empty (by first | exact ((hB2.setCell (p := ⟨w.heap.size + 1, 0, none⟩) (by simp) _).setCell (p := ⟨w.heap.size + 1, 1, none⟩) (by simp) _).setCell (p := ⟨w.heap.size + 1, 2, none⟩) (by simp) _ | exact hB2)
  · have hall := hide (ahOk_all ha)
    have hres := hide (show sureRes ds ws k = foldG newG ds by unfold sureRes; rw [ha]; rfl)
    have hokd := hide (show ∀ r ∈ ds, okNA r from fun r hr => hall.out r (List.mem_append_left _ hr))
    clear ha
    go_wp2_with fail
    refine (l2Fold_c A n c 0 hi ds w2 hnl.out hn hsd2.out.slR (by omega) hokd.out).mono ?_
    rintro e w4 ⟨A4, n4, c4, B4, p4, d4, E4, q4, f4, rfl, hg4, hb4⟩
    have hz4 := hb4.size
    go_wp2_with fail
    refine (l2Copy_c A4 n4 c4 B4 p4 d4 E4 q4 f4 _ (foldG newG ds) w4 hg4 (fun b hb => hb.elim (fun h => h.elim) (fun h => h.2)) (okGD_len (okG.folding newG_ok hokd.out))).mono ?_
    rintro e w5 ⟨A5, n5, c5, B5, p5, d5, E5, q5, f5, rfl, hg5, hb5⟩
    have hrr5 := (hr2.below hb4 hr2.lt).below hb5 (by have := hr2.lt; omega)
    clear yy0 yy1 yy2 yg0 yg1 yg2
    obtain ⟨yy0, yy1, yy2, yg0, yg1, yg2⟩ := hrr5.cells
    have hz5 := hb5.size
    have hl2 := hr2.lt
    go_wp2
    refine bodyPost_ret (v := .agg #[.slice A5 n5 c5, .slice B5 p5 d5, .slice E5 q5 f5]) (by simp [results, Try.results21, go_sem, yy0, yy1, yy2, yg0, yg1, yg2]) rfl ?_
    rw [hres.out]
    have hf := gm_fin (D := fun _ => False) (x := w.heap.size + 1) (y := w.heap.size + 1) (w := w) (w9 := w5) (w' := ((w5.setCell ⟨w.heap.size + 1, 0, none⟩ (.slice A5 n5 c5)).setCell ⟨w.heap.size + 1, 1, none⟩ (.slice B5 p5 d5)).setCell ⟨w.heap.size + 1, 2, none⟩ (.slice E5 q5 f5)) (by (repeat (first | (with_reducible exact Onl.refl _ _ _) | (with_reducible exact Onl.drewL _ _ _) | (with_reducible refine Onl.set ?_ (by simp) _) | with_reducible refine Onl.drew ?_))) (hB2.trans ((hb4.mono (by omega)).trans (hb5.mono (by omega)))) (by omega) (by omega) hg5 (fun b hb => by
      rcases hb with hb | hb
      · exact hb.elim
      · exact ⟨by omega, by omega, .inr ⟨by omega, hb.2⟩⟩)
    exact ⟨A5, n5, c5, B5, p5, d5, E5, q5, f5, rfl, hf.1, hf.2⟩
set_option maxRecDepth 100000 in
set_option maxHeartbeats 2000000 in
theorem AheadSureO_c (A : Option Addr) (n c : Nat) (B : Option Addr) (m d : Nat) (k : Int) (lo hi : Nat) (ds ws : List ReqT) (w : World) (hsd : RdN 5 (flatR encReq) w lo hi A n c ds) (hsw : RdN 5 (flatR encReq) w lo hi B m d ws) (hn : n ≤ 1048576) (hm : m ≤ 1048576) (hhi : hi ≤ w.heap.size) :
    Calls Try.prog 22 #[.agg #[.slice A n c, .slice B m d, .int .i64 k]] w fun e w' => OwP w w.heap.size (sureRes ds ws k) e w' := by
  have hAB : Below w.heap.size w ((w.alloc (.cells #[.slice A n c, .slice B m d, .int .i64 k] 41)).alloc (.cells #[.slice none 0 0, .slice none 0 0, .slice none 0 0] 27)) := ((Below.refl w.heap.size w).alloc (Nat.le_refl _) _).alloc (by simp) _
  have hx0 : Bx3 ((w.alloc (.cells #[.slice A n c, .slice B m d, .int .i64 k] 41)).alloc (.cells #[.slice none 0 0, .slice none 0 0, .slice none 0 0] 27)) w.heap.size (.slice A n c) (.slice B m d) (.int .i64 k) 41 := (Bx3.made w (.slice A n c) (.slice B m d) (.int .i64 k) 41).alloc _
  have hr0 : Bx3 ((w.alloc (.cells #[.slice A n c, .slice B m d, .int .i64 k] 41)).alloc (.cells #[.slice none 0 0, .slice none 0 0, .slice none 0 0] 27)) (w.heap.size + 1) (.slice none 0 0) (.slice none 0 0) (.slice none 0 0) 27 := Bx3.newE (by simp)
  have hz1 : w.heap.size + 2 ≤ ((w.alloc (.cells #[.slice A n c, .slice B m d, .int .i64 k] 41)).alloc (.cells #[.slice none 0 0, .slice none 0 0, .slice none 0 0] 27)).heap.size := by simp only [World.size_alloc]; omega
  have hsd1 := hide (hsd.below (flat_kept encReq) hAB hhi)
  have hsw1 := hide (hsw.below (flat_kept encReq) hAB hhi)
  have hnl := hide hsd.len
  have hml := hide hsw.len
  clear hsd hsw
  go_enter Try.func22, Try.ntmps22
  go_wp2_with fail
  generalize ((w.alloc (.cells #[.slice A n c, .slice B m d, .int .i64 k] 41)).alloc (.cells #[.slice none 0 0, .slice none 0 0, .slice none 0 0] 27)) = w1 at *
  refine (AheadOk_c A n c B m d k lo hi ds ws w1 hsd1.out hsw1.out hn hm (by omega)).mono ?_
  rintro e w2 ⟨rfl, hb2⟩
  have hz2 := hb2.size
  have hx2 := hx0.below hb2 hx0.lt
  have hr2 := hr0.below hb2 hr0.lt
  have hB2 := hAB.trans (hb2.mono (by omega))
  have hsd2 := hide (hsd1.out.below (flat_kept encReq) hb2 (by omega))
  have hsw2 := hide (hsw1.out.below (flat_kept encReq) hb2 (by omega))
  obtain ⟨xx0, xx1, xx2, -, -, -⟩ := hx2.cells
  obtain ⟨yy0, yy1, yy2, yg0, yg1, yg2⟩ := hr2.cells
  clear hsd1 hsw1 hb2
  cases ha : ahOk ds ws k
  · have hres := hide (show sureRes ds ws k = emptyG by unfold sureRes; rw [ha]; rfl)
    clear ha
    go_wp2
    refine bodyPost_ret (v := .agg #[.slice none 0 0, .slice none 0 0, .slice none 0 0]) (by simp [results, Try.results22, go_sem, yy0, yy1, yy2, yg0, yg1, yg2]) rfl ?_
    rw [hres.out]
    exact OwP.empty (by first | exact ((hB2.setCell (p := ⟨w.heap.size + 1, 0, none⟩) (by simp) _).setCell (p := ⟨w.heap.size + 1, 1, none⟩) (by simp) _).setCell (p := ⟨w.heap.size + 1, 2, none⟩) (by simp) _ | exact hB2)
  · have hall := hide (ahOk_all ha)
    have hres := hide (show sureRes ds ws k = foldG newG ds by unfold sureRes; rw [ha]; rfl)
    have hokd := hide (show ∀ r ∈ ds, okNA r from fun r hr => hall.out r (List.mem_append_left _ hr))
    clear ha
    have hl2 := hr2.lt
    have hlx2 := hx2.lt
    go_wp2
    refine wp_region_T (SinceB (w.heap.size + 1) _) [41] [] [9] [1, 2, 0, 3, 4] (by kernel_rfl) (by kernel_rfl) (by kernel_rfl) (SinceB.drew _ _) ?_; simp only [pickL, List.getElem?_cons_succ, List.getElem?_cons_zero]
    go_wp2_with (first
      | (go_at_call 29; refine (playedO_c A3 n3 B3 p3 E3 q3 w2.heap.size newG A n c 0 hi ds _ hg3 (by omega) (fun k => foldG_ok hokd.out k) hnl.out hn (hsd2.out.slR.below (B := w2.heap.size) hb3 (by omega)) (by omega) hokd.out).mono ?_; rintro e w4 ⟨A4, n4, B4, p4, E4, q4, rfl, hg4, hq4⟩; have hb4 : Below w2.heap.size w2 w4 := Below.appR hb3 hq4; have hz4 := hb4.size; have hS4 : SinceB (w.heap.size + 1) w2 w4 := (SinceB.refl _ _).below hb4 (by omega); have hr4 := hr2.below hb4 hr2.lt; clear yy0 yy1 yy2 yg0 yg1 yg2; obtain ⟨yy0, yy1, yy2, yg0, yg1, yg2⟩ := hr4.cells; have hK := hK)
      | (go_at_call 30; refine (GameNewO_c _).mono ?_; rintro e w3 ⟨A3, n3, B3, p3, E3, q3, rfl, hg3, hb3⟩; have hb3 : Below w2.heap.size w2 w3 := Below.appR (Below.drew (Below.refl _ _)) hb3; have hz3 := hb3.size; have hg3 : GmO w3 w2.heap.size A3 n3 n3 B3 p3 p3 E3 q3 q3 newG := hg3; have hS3 : SinceB (w.heap.size + 1) w2 w3 := (SinceB.refl _ _).below hb3 (by omega); have hr3 := hr2.below hb3 hr2.lt; clear yy0 yy1 yy2 yg0 yg1 yg2; obtain ⟨yy0, yy1, yy2, yg0, yg1, yg2⟩ := hr3.cells; have hK := hK)
      | (with_reducible refine SinceB.and_ ?_ ?_; (focus (repeat (first | (with_reducible exact SinceB.refl _ _) | (with_reducible assumption) | (with_reducible refine SinceB.drewR ?_) | ((with_reducible refine SinceB.alloc ?_ ?_ _); rotate_left; (focus (first | (with_reducible assumption) | (simp; done) | (simp; omega) | omega))) | ((with_reducible refine SinceB.set ?_ ?_ _); rotate_left; (focus (first | omega | (simp; done) | (simp; omega))))))); intro hS) | ((with_reducible refine wpT_noL ?_ ?_); (focus (first | exact wanted_no _ _ _ rfl rfl rfl | exact wanted_un _ _ _ rfl rfl rfl)); simp only [setO, List.set_cons_succ, List.set_cons_zero]) | ((with_reducible refine wpT_q0 ?_ ?_ ?_ ?_); (focus rfl); (focus rfl); (focus rfl); intro K hK) | ((with_reducible refine wpT_i ?_ ?_); (focus (refine ⟨_, _, _, _, _, _, _, _, rfl, rfl, rfl, rfl, rfl, ?_⟩; omega)); intro K hK) | ((with_reducible apply wpT_lB); (focus rfl); (focus rfl); (focus rfl); (focus rfl); (focus (first | exact SinceB.drew _ _ | (with_reducible assumption))); (focus (simp <;> omega)); (focus go_simp); intro K hK) | ((with_reducible apply wpT_lwB); (focus exact wanted_yes _ _ _ rfl rfl rfl); (focus rfl); (focus rfl); (focus rfl); (focus (first | exact SinceB.drew _ _ | (with_reducible assumption))); (focus (simp <;> omega)); (focus go_simp); intro K hK) | ((with_reducible refine wpT_xs0 ?_ ?_ ?_); (focus rfl); (focus rfl); intro K hK) | ((with_reducible refine wpT_q1 ?_ ?_ ?_ ?_); (focus exact wanted_yes _ _ _ rfl rfl rfl); (focus rfl); (focus rfl); intro K hK) | ((with_reducible refine wpT_xs1 ?_ ?_ ?_); (focus exact wanted_yes _ _ _ rfl rfl rfl); (focus rfl); intro K hK) | ((with_reducible refine wpT_nil ?_); try dsimp only)
      | fail)
    have hg4h := hide hg4
    refine bodyPost_ret (v := .agg #[.slice A4 n4 n4, .slice B4 p4 p4, .slice E4 q4 q4]) (by simp [results, Try.results22, go_sem, yy0, yy1, yy2, yg0, yg1, yg2]) rfl ?_
    rw [hres.out]
    have hO : Onl (w.heap.size + 1) (w.heap.size + 1) w4 (((w4.setCell ⟨w.heap.size + 1, 0, none⟩ (.slice A4 n4 n4)).setCell ⟨w.heap.size + 1, 1, none⟩ (.slice B4 p4 p4)).setCell ⟨w.heap.size + 1, 2, none⟩ (.slice E4 q4 q4)) := by (repeat (first | (with_reducible exact Onl.refl _ _ _) | (with_reducible exact Onl.drewL _ _ _) | (with_reducible refine Onl.set ?_ (by simp) _) | with_reducible refine Onl.drew ?_))
    exact ⟨A4, n4, B4, p4, E4, q4, rfl, (hg4h.out.keep (fun b hb _ => hO.blk b (by omega) (by omega))).mono (by omega), hO.bel _ _ (by omega) (by omega) (hB2.trans (hb4.mono (by omega)))⟩
set_option maxRecDepth 100000 in
set_option maxHeartbeats 2000000 in
theorem AheadGameO_c (A : Option Addr) (n c : Nat) (B : Option Addr) (m d : Nat) (k : Int) (lo hi : Nat) (ds ws : List ReqT) (w : World) (hsd : RdN 5 (flatR encReq) w lo hi A n c ds) (hsw : RdN 5 (flatR encReq) w lo hi B m d ws) (hn : n ≤ 1048576) (hm : m ≤ 1048576) (hhi : hi ≤ w.heap.size) :
    Calls Try.prog 18 #[.agg #[.slice A n c, .slice B m d, .int .i64 k]] w fun e w' => OwP w w.heap.size (aheadRes ds ws k) e w' := by
  have hAB : Below w.heap.size w ((w.alloc (.cells #[.slice A n c, .slice B m d, .int .i64 k] 41)).alloc (.cells #[.slice none 0 0, .slice none 0 0, .slice none 0 0] 27)) := ((Below.refl w.heap.size w).alloc (Nat.le_refl _) _).alloc (by simp) _
  have hx0 : Bx3 ((w.alloc (.cells #[.slice A n c, .slice B m d, .int .i64 k] 41)).alloc (.cells #[.slice none 0 0, .slice none 0 0, .slice none 0 0] 27)) w.heap.size (.slice A n c) (.slice B m d) (.int .i64 k) 41 := (Bx3.made w (.slice A n c) (.slice B m d) (.int .i64 k) 41).alloc _
  have hr0 : Bx3 ((w.alloc (.cells #[.slice A n c, .slice B m d, .int .i64 k] 41)).alloc (.cells #[.slice none 0 0, .slice none 0 0, .slice none 0 0] 27)) (w.heap.size + 1) (.slice none 0 0) (.slice none 0 0) (.slice none 0 0) 27 := Bx3.newE (by simp)
  have hz1 : w.heap.size + 2 ≤ ((w.alloc (.cells #[.slice A n c, .slice B m d, .int .i64 k] 41)).alloc (.cells #[.slice none 0 0, .slice none 0 0, .slice none 0 0] 27)).heap.size := by simp only [World.size_alloc]; omega
  have hsd1 := hide (hsd.below (flat_kept encReq) hAB hhi)
  have hsw1 := hide (hsw.below (flat_kept encReq) hAB hhi)
  have hnl := hide hsd.len
  have hml := hide hsw.len
  clear hsd hsw
  go_enter Try.func18, Try.ntmps18
  go_wp2_with fail
  generalize ((w.alloc (.cells #[.slice A n c, .slice B m d, .int .i64 k] 41)).alloc (.cells #[.slice none 0 0, .slice none 0 0, .slice none 0 0] 27)) = w1 at *
  refine (AheadOk_c A n c B m d k lo hi ds ws w1 hsd1.out hsw1.out hn hm (by omega)).mono ?_
  rintro e w2 ⟨rfl, hb2⟩
  have hz2 := hb2.size
  have hx2 := hx0.below hb2 hx0.lt
  have hr2 := hr0.below hb2 hr0.lt
  have hB2 := hAB.trans (hb2.mono (by omega))
  have hsd2 := hide (hsd1.out.below (flat_kept encReq) hb2 (by omega))
  have hsw2 := hide (hsw1.out.below (flat_kept encReq) hb2 (by omega))
  obtain ⟨xx0, xx1, xx2, -, -, -⟩ := hx2.cells
  obtain ⟨yy0, yy1, yy2, yg0, yg1, yg2⟩ := hr2.cells
  clear hsd1 hsw1 hb2
  cases ha : ahOk ds ws k
  · have hres := hide (show aheadRes ds ws k = emptyG by unfold aheadRes; rw [ha]; rfl)
    clear ha
    go_wp2
    refine bodyPost_ret (v := .agg #[.slice none 0 0, .slice none 0 0, .slice none 0 0]) (by simp [results, Try.results18, go_sem, yy0, yy1, yy2, yg0, yg1, yg2]) rfl ?_
    rw [hres.out]
    exact OwP.empty (by first | exact ((hB2.setCell (p := ⟨w.heap.size + 1, 0, none⟩) (by simp) _).setCell (p := ⟨w.heap.size + 1, 1, none⟩) (by simp) _).setCell (p := ⟨w.heap.size + 1, 2, none⟩) (by simp) _ | exact hB2)
  · have hall := hide (ahOk_all ha)
    have hres := hide (show aheadRes ds ws k = foldG (foldG newG ds) ws by unfold aheadRes; rw [ha, ← foldG_append]; rfl)
    have hokd := hide (show ∀ r ∈ ds, okNA r from fun r hr => hall.out r (List.mem_append_left _ hr))
    have hokw := hide (show ∀ r ∈ ws, okNA r from fun r hr => hall.out r (List.mem_append_right _ hr))
    have hokf := hide (show ∀ k, okG (foldG (foldG newG ds) (ws.take k)) from fun k => okG.folding (okG.folding newG_ok hokd.out) (fun r hr => hokw.out r (List.mem_of_mem_take hr)))
    clear ha
    have hl2 := hr2.lt
    have hlx2 := hx2.lt
    go_wp2
    refine wp_region_T (SinceB (w.heap.size + 1) _) [41] [] [9, 12] [1, 2, 4, 5, 0, 3, 6, 7] (by kernel_rfl) (by kernel_rfl) (by kernel_rfl) (SinceB.drew _ _) ?_; simp only [pickL, List.getElem?_cons_succ, List.getElem?_cons_zero]
    go_wp2_with (first
      | (go_at_call 29; refine (playedO_c A4 n4 B4 p4 E4 q4 w2.heap.size (foldG newG ds) B m d 0 hi ws _ hg4 (by omega) hokf.out hml.out hm (hsw2.out.slR.below (B := w2.heap.size) hb4 (by omega)) (by omega) hokw.out).mono ?_; rintro e w5 ⟨A5, n5, B5, p5, E5, q5, rfl, hg5, hq5⟩; have hb5 : Below w2.heap.size w2 w5 := Below.appR hb4 hq5; have hz5 := hb5.size; have hS5 : SinceB (w.heap.size + 1) w2 w5 := (SinceB.refl _ _).below hb5 (by omega); have hr5 := hr2.below hb5 hr2.lt; clear yy0 yy1 yy2 yg0 yg1 yg2; obtain ⟨yy0, yy1, yy2, yg0, yg1, yg2⟩ := hr5.cells; have hK := hK)
      | (go_at_call 29; refine (playedO_c A3 n3 B3 p3 E3 q3 w2.heap.size newG A n c 0 hi ds _ hg3 (by omega) (fun k => foldG_ok hokd.out k) hnl.out hn (hsd2.out.slR.below (B := w2.heap.size) hb3 (by omega)) (by omega) hokd.out).mono ?_; rintro e w4 ⟨A4, n4, B4, p4, E4, q4, rfl, hg4, hq4⟩; have hb4 : Below w2.heap.size w2 w4 := Below.appR hb3 hq4; have hz4 := hb4.size; have hS4 : SinceB (w.heap.size + 1) w2 w4 := (SinceB.refl _ _).below hb4 (by omega); have hr4 := hr2.below hb4 hr2.lt; clear yy0 yy1 yy2 yg0 yg1 yg2; obtain ⟨yy0, yy1, yy2, yg0, yg1, yg2⟩ := hr4.cells; have hK := hK)
      | (go_at_call 30; refine (GameNewO_c _).mono ?_; rintro e w3 ⟨A3, n3, B3, p3, E3, q3, rfl, hg3, hb3⟩; have hb3 : Below w2.heap.size w2 w3 := Below.appR (Below.drew (Below.refl _ _)) hb3; have hz3 := hb3.size; have hg3 : GmO w3 w2.heap.size A3 n3 n3 B3 p3 p3 E3 q3 q3 newG := hg3; have hS3 : SinceB (w.heap.size + 1) w2 w3 := (SinceB.refl _ _).below hb3 (by omega); have hr3 := hr2.below hb3 hr2.lt; clear yy0 yy1 yy2 yg0 yg1 yg2; obtain ⟨yy0, yy1, yy2, yg0, yg1, yg2⟩ := hr3.cells; have hK := hK)
      | (with_reducible refine SinceB.and_ ?_ ?_; (focus (repeat (first | (with_reducible exact SinceB.refl _ _) | (with_reducible assumption) | (with_reducible refine SinceB.drewR ?_) | ((with_reducible refine SinceB.alloc ?_ ?_ _); rotate_left; (focus (first | (with_reducible assumption) | (simp; done) | (simp; omega) | omega))) | ((with_reducible refine SinceB.set ?_ ?_ _); rotate_left; (focus (first | omega | (simp; done) | (simp; omega))))))); intro hS) | ((with_reducible refine wpT_noL ?_ ?_); (focus (first | exact wanted_no _ _ _ rfl rfl rfl | exact wanted_un _ _ _ rfl rfl rfl)); simp only [setO, List.set_cons_succ, List.set_cons_zero]) | ((with_reducible refine wpT_q0 ?_ ?_ ?_ ?_); (focus rfl); (focus rfl); (focus rfl); intro K hK) | ((with_reducible refine wpT_i ?_ ?_); (focus (refine ⟨_, _, _, _, _, _, _, _, rfl, rfl, rfl, rfl, rfl, ?_⟩; omega)); intro K hK) | ((with_reducible apply wpT_lB); (focus rfl); (focus rfl); (focus rfl); (focus rfl); (focus (first | exact SinceB.drew _ _ | (with_reducible assumption))); (focus (simp <;> omega)); (focus go_simp); intro K hK) | ((with_reducible apply wpT_lwB); (focus exact wanted_yes _ _ _ rfl rfl rfl); (focus rfl); (focus rfl); (focus rfl); (focus (first | exact SinceB.drew _ _ | (with_reducible assumption))); (focus (simp <;> omega)); (focus go_simp); intro K hK) | ((with_reducible refine wpT_xs0 ?_ ?_ ?_); (focus rfl); (focus rfl); intro K hK) | ((with_reducible refine wpT_q1 ?_ ?_ ?_ ?_); (focus exact wanted_yes _ _ _ rfl rfl rfl); (focus rfl); (focus rfl); intro K hK) | ((with_reducible refine wpT_xs1 ?_ ?_ ?_); (focus exact wanted_yes _ _ _ rfl rfl rfl); (focus rfl); intro K hK) | ((with_reducible refine wpT_nil ?_); try dsimp only)
      | fail)
    have hg5h := hide hg5
    refine bodyPost_ret (v := .agg #[.slice A5 n5 n5, .slice B5 p5 p5, .slice E5 q5 q5]) (by simp [results, Try.results18, go_sem, yy0, yy1, yy2, yg0, yg1, yg2]) rfl ?_
    rw [hres.out]
    have hO : Onl (w.heap.size + 1) (w.heap.size + 1) w5 (((w5.setCell ⟨w.heap.size + 1, 0, none⟩ (.slice A5 n5 n5)).setCell ⟨w.heap.size + 1, 1, none⟩ (.slice B5 p5 p5)).setCell ⟨w.heap.size + 1, 2, none⟩ (.slice E5 q5 q5)) := by (repeat (first | (with_reducible exact Onl.refl _ _ _) | (with_reducible exact Onl.drewL _ _ _) | (with_reducible refine Onl.set ?_ (by simp) _) | with_reducible refine Onl.drew ?_))
    exact ⟨A5, n5, B5, p5, E5, q5, rfl, (hg5h.out.keep (fun b hb _ => hO.blk b (by omega) (by omega))).mono (by omega), hO.bel _ _ (by omega) (by omega) (hB2.trans (hb5.mono (by omega)))⟩
set_option maxRecDepth 100000 in
set_option maxHeartbeats 2000000 in
theorem AheadGameS_c (A : Option Addr) (n c : Nat) (B : Option Addr) (m d : Nat) (k : Int) (lo hi : Nat) (ds ws : List ReqT) (w : World) (hsd : RdN 5 (flatR encReq) w lo hi A n c ds) (hsw : RdN 5 (flatR encReq) w lo hi B m d ws) (hn : n ≤ 1048576) (hm : m ≤ 1048576) (hhi : hi ≤ w.heap.size) :
    Calls Try.prog 16 #[.agg #[.slice A n c, .slice B m d, .int .i64 k]] w fun e w' => GmPost w (fun _ => False) (aheadRes ds ws k) e w' := by
  have hAB : Below w.heap.size w ((w.alloc (.cells #[.slice A n c, .slice B m d, .int .i64 k] 41)).alloc (.cells #[.slice none 0 0, .slice none 0 0, .slice none 0 0] 27)) := ((Below.refl w.heap.size w).alloc (Nat.le_refl _) _).alloc (by simp) _
  have hx0 : Bx3 ((w.alloc (.cells #[.slice A n c, .slice B m d, .int .i64 k] 41)).alloc (.cells #[.slice none 0 0, .slice none 0 0, .slice none 0 0] 27)) w.heap.size (.slice A n c) (.slice B m d) (.int .i64 k) 41 := (Bx3.made w (.slice A n c) (.slice B m d) (.int .i64 k) 41).alloc _
  have hr0 : Bx3 ((w.alloc (.cells #[.slice A n c, .slice B m d, .int .i64 k] 41)).alloc (.cells #[.slice none 0 0, .slice none 0 0, .slice none 0 0] 27)) (w.heap.size + 1) (.slice none 0 0) (.slice none 0 0) (.slice none 0 0) 27 := Bx3.newE (by simp)
  have hz1 : w.heap.size + 2 ≤ ((w.alloc (.cells #[.slice A n c, .slice B m d, .int .i64 k] 41)).alloc (.cells #[.slice none 0 0, .slice none 0 0, .slice none 0 0] 27)).heap.size := by simp only [World.size_alloc]; omega
  have hsd1 := hide (hsd.below (flat_kept encReq) hAB hhi)
  have hsw1 := hide (hsw.below (flat_kept encReq) hAB hhi)
  have hnl := hide hsd.len
  have hml := hide hsw.len
  clear hsd hsw
  go_enter Try.func16, Try.ntmps16
  go_wp2_with fail
  generalize ((w.alloc (.cells #[.slice A n c, .slice B m d, .int .i64 k] 41)).alloc (.cells #[.slice none 0 0, .slice none 0 0, .slice none 0 0] 27)) = w1 at *
  refine (l8Ok_c A n c B m d k lo hi ds ws w1 hsd1.out hsw1.out hn hm (by omega)).mono ?_
  rintro e w2 ⟨rfl, hb2⟩
  have hz2 := hb2.size
  have hx2 := hx0.below hb2 hx0.lt
  have hr2 := hr0.below hb2 hr0.lt
  have hB2 := hAB.trans (hb2.mono (by omega))
  have hsd2 := hide (hsd1.out.below (flat_kept encReq) hb2 (by omega))
  have hsw2 := hide (hsw1.out.below (flat_kept encReq) hb2 (by omega))
  obtain ⟨xx0, xx1, xx2, -, -, -⟩ := hx2.cells
  obtain ⟨yy0, yy1, yy2, yg0, yg1, yg2⟩ := hr2.cells
  clear hsd1 hsw1 hb2
  cases ha : ahOk ds ws k
  · have hres := hide (show aheadRes ds ws k = emptyG by unfold aheadRes; rw [ha]; rfl)
    clear ha
    go_wp2
    refine bodyPost_ret (v := .agg #[.slice none 0 0, .slice none 0 0, .slice none 0 0]) (by simp [results, Try.results16, go_sem, yy0, yy1, yy2, yg0, yg1, yg2]) rfl ?_
    rw [hres.out]
    exact GmPost.empty (by first | exact ((hB2.setCell (p := ⟨w.heap.size + 1, 0, none⟩) (by simp) _).setCell (p := ⟨w.heap.size + 1, 1, none⟩) (by simp) _).setCell (p := ⟨w.heap.size + 1, 2, none⟩) (by simp) _ | exact hB2)
  · have hall := hide (ahOk_all ha)
    obtain ⟨zs, hzs⟩ : ∃ zs, Hid (ds ++ ws = zs) := ⟨_, hide rfl⟩
    have hzl := hide (show zs.length ≤ 1048576 from by
      have hm60 : ds.length + ws.length ≤ 60 := by unfold ahOk at ha; simp only [Bool.and_eq_true, decide_eq_true_eq] at ha; exact ha.1.2
      rw [← hzs.out, List.length_append]; omega)
    have hres := hide (show aheadRes ds ws k = foldG newG zs by unfold aheadRes; rw [ha, hzs.out]; rfl)
    rw [hzs.out] at hall
    clear ha
    have hl2 := hr2.lt
    have hlx2 := hx2.lt
    go_wp2
    refine wp_region_T (SinceB (w.heap.size + 1) _) [41] [] [9, 12] [1, 2, 4, 5, 0, 3, 6, 7, 8, 9] (by kernel_rfl) (by kernel_rfl) (by kernel_rfl) (SinceB.drew _ _) ?_; simp only [pickL, List.getElem?_cons_succ, List.getElem?_cons_zero]
    go_wp2_with (first
      | (go_at_call 25; refine (l2Copy_c A5 n5 c5 B5 p5 d5 E5 q5 f5 _ (foldG newG zs) w5 hg5 (fun b hb => hb.elim (fun h => h.elim) (fun h => h.2)) (okGD_len (okG.folding newG_ok hall.out))).mono ?_; rintro e w6 ⟨A6, n6, c6, B6, p6, d6, E6, q6, f6, rfl, hg6, hq6⟩; have hb6 : Below w2.heap.size w2 w6 := Below.appR hb5 hq6; have hz6 := hb6.size; have hS6 : SinceB (w.heap.size + 1) w2 w6 := (SinceB.refl _ _).below hb6 (by omega); have hr6 := hr2.below hb6 hr2.lt; clear yy0 yy1 yy2 yg0 yg1 yg2; obtain ⟨yy0, yy1, yy2, yg0, yg1, yg2⟩ := hr6.cells; have hK := hK)
      | (go_at_call 26; refine (l2Fold_c A4 zs.length c4 _ _ zs w4 rfl hzl.out ho4s.out (Nat.le_refl _) hall.out).mono ?_; rintro e w5 ⟨A5, n5, c5, B5, p5, d5, E5, q5, f5, rfl, hg5, hq5⟩; have hb5 : Below w2.heap.size w2 w5 := Below.appR hb4 hq5; have hz5 := hb5.size; have hzq5 := hq5.size; have hS5 : SinceB (w.heap.size + 1) w2 w5 := (SinceB.refl _ _).below hb5 (by omega); have hr5 := hr2.below hb5 hr2.lt; clear yy0 yy1 yy2 yg0 yg1 yg2; obtain ⟨yy0, yy1, yy2, yg0, yg1, yg2⟩ := hr5.cells; have hK := hK)
      | ((with_reducible refine wpT_xs0 ?_ ?_ ?_); (focus rfl); (focus rfl); intro K hK; refine wp_app encReq_len (by omega) encReq_one _ _ 29 rfl 48 _ 40 Try.underlying29 infoReq rfl w2.heap.size (.slice (some ⟨g3, 0, none⟩) n c3) ds rfl ho3 0 hi B ws m d rfl hml.out (hsw2.out.slR.below (B := w2.heap.size) hb3 (by omega)) (by have h1 := hnl.out; have h2 := hml.out; simp only [maxLen]; omega) (by omega) ?_; intro v4 w4 ho4 _ hb4; rw [hzs.out] at ho4; have hz4 := hb4.size; have hb4 : Below w2.heap.size w2 w4 := hb3.trans hb4; have hz4 := hb4.size; have hS4 : SinceB (w.heap.size + 1) w2 w4 := (SinceB.refl _ _).below hb4 (by omega); obtain ⟨A4, c4, rfl, hf4⟩ := ho4.form; have ho4s := hide (ho4.slAt encReq_len).2.2; clear hf4; have hr4 := hr2.below hb4 hr2.lt; clear yy0 yy1 yy2 yg0 yg1 yg2; obtain ⟨yy0, yy1, yy2, yg0, yg1, yg2⟩ := hr4.cells; have hK := hK)
      | ((with_reducible refine wpT_xs0 ?_ ?_ ?_); (focus rfl); (focus rfl); intro K hK; refine wp_app0 encReq_len (by omega) encReq_one _ _ 29 rfl 48 _ 40 Try.underlying29 infoReq rfl w2.heap.size _ rfl ?_ ?_ 0 hi A ds n c rfl hnl.out ?_ ?_ ?_; (focus (first | exact Emp.newE (by simp) _ | exact (Emp.newE (by simp) _).drew)); (focus (simp; done)); (focus (refine hsd2.out.slR.below (B := w2.heap.size) ?_ (by omega); (focus (repeat (first | (with_reducible exact Below.refl _ _) | (with_reducible refine Below.drew ?_) | (with_reducible refine Below.allocR ?_ _)))))); (focus (have h1 := hnl.out; simp only [maxLen]; omega)); intro g3 c3 w3 ho3 hb3; have hb3 : Below w2.heap.size w2 w3 := (by (first | exact Below.appR (Below.allocR (Below.drew (Below.refl _ _)) _) hb3 | exact Below.appR (Below.drew (Below.allocR (Below.refl _ _) _)) hb3)); have hz3 := hb3.size; have hS3 : SinceB (w.heap.size + 1) w2 w3 := (SinceB.refl _ _).below hb3 (by omega); have ho3 := ho3; have hr3 := hr2.below hb3 hr2.lt; clear yy0 yy1 yy2 yg0 yg1 yg2; obtain ⟨yy0, yy1, yy2, yg0, yg1, yg2⟩ := hr3.cells; have hK := hK)
      | (with_reducible refine SinceB.and_ ?_ ?_; (focus (repeat (first | (with_reducible exact SinceB.refl _ _) | (with_reducible assumption) | (with_reducible refine SinceB.drewR ?_) | ((with_reducible refine SinceB.alloc ?_ ?_ _); rotate_left; (focus (first | (with_reducible assumption) | (simp; done) | (simp; omega) | omega))) | ((with_reducible refine SinceB.set ?_ ?_ _); rotate_left; (focus (first | omega | (simp; done) | (simp; omega))))))); intro hS) | ((with_reducible refine wpT_noL ?_ ?_); (focus (first | exact wanted_no _ _ _ rfl rfl rfl | exact wanted_un _ _ _ rfl rfl rfl)); simp only [setO, List.set_cons_succ, List.set_cons_zero]) | ((with_reducible refine wpT_q0 ?_ ?_ ?_ ?_); (focus rfl); (focus rfl); (focus rfl); intro K hK) | ((with_reducible refine wpT_i ?_ ?_); (focus (refine ⟨_, _, _, _, _, _, _, _, rfl, rfl, rfl, rfl, rfl, ?_⟩; omega)); intro K hK) | ((with_reducible apply wpT_lB); (focus rfl); (focus rfl); (focus rfl); (focus rfl); (focus (first | exact SinceB.drew _ _ | (with_reducible assumption))); (focus (simp <;> omega)); (focus go_simp); intro K hK) | ((with_reducible apply wpT_lwB); (focus exact wanted_yes _ _ _ rfl rfl rfl); (focus rfl); (focus rfl); (focus rfl); (focus (first | exact SinceB.drew _ _ | (with_reducible assumption))); (focus (simp <;> omega)); (focus go_simp); intro K hK) | ((with_reducible refine wpT_xs0 ?_ ?_ ?_); (focus rfl); (focus rfl); intro K hK) | ((with_reducible refine wpT_q1 ?_ ?_ ?_ ?_); (focus exact wanted_yes _ _ _ rfl rfl rfl); (focus rfl); (focus rfl); intro K hK) | ((with_reducible refine wpT_xs1 ?_ ?_ ?_); (focus exact wanted_yes _ _ _ rfl rfl rfl); (focus rfl); intro K hK) | ((with_reducible refine wpT_nil ?_); try dsimp only)
      | fail)
    refine bodyPost_ret (v := .agg #[.slice A6 n6 c6, .slice B6 p6 d6, .slice E6 q6 f6]) (by simp [results, Try.results16, go_sem, yy0, yy1, yy2, yg0, yg1, yg2]) rfl ?_
    rw [hres.out]
    have hf := gm_fin (D := fun _ => False) (x := w.heap.size + 1) (y := w.heap.size + 1) (w := w) (w9 := w6) (w' := ((w6.setCell ⟨w.heap.size + 1, 0, none⟩ (.slice A6 n6 c6)).setCell ⟨w.heap.size + 1, 1, none⟩ (.slice B6 p6 d6)).setCell ⟨w.heap.size + 1, 2, none⟩ (.slice E6 q6 f6)) (by (repeat (first | (with_reducible exact Onl.refl _ _ _) | (with_reducible exact Onl.drewL _ _ _) | (with_reducible refine Onl.set ?_ (by simp) _) | with_reducible refine Onl.drew ?_))) (hB2.trans (hb6.mono (by omega))) (by omega) (by omega) hg6 (fun b hb => by
      rcases hb with hb | hb
      · exact hb.elim
      · exact ⟨by omega, by omega, .inr ⟨by omega, hb.2⟩⟩)
    exact ⟨A6, n6, c6, B6, p6, d6, E6, q6, f6, rfl, hf.1, hf.2⟩
end Go.Proofs.Ytipdkcdhnppdoaa
