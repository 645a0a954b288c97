/-
  What 'IP' rests on, part 5 of 11 (texts of this seat put together: HK HL HQ HM BaseF).
  Conditions: none.
-/
import Derived.Test.YtajmfonepnkofaaDoorZ4
import Derived.WalkKit
import Derived.WalkLawsBesides
import Derived.WalkSpells
namespace Go.Proofs.YtajmfonepnkofaaDoor
open Go.RowKit Rg
set_option linter.unusedVariables false
set_option linter.unusedSimpArgs false

theorem Emp.newE {w : World} {b : Nat} (h : b = w.heap.size) (e : TypeId) : Emp (w.alloc (.cells #[] e)) b e := by rw [h]; exact Emp.new w e
theorem Own.app {α : Type} {enc : α → List Value} {sz lo : Nat} {e : TypeId} {w w' : World} {v : Value} {xs : List α} (h : Own enc sz e w lo v xs) (hb : Below w.heap.size w w') : Own enc sz e w' lo v xs := h.below hb (Nat.le_refl _)
section
variable {w w2 w3 : World} {V0 V1 V2 : Value}
theorem Gs.app (h : Gs w w2 V0 V1 V2) (hb : Below w2.heap.size w2 w3) : Gs w w3 V0 V1 V2 := h.below hb h.sz
theorem Gs.alloc (h : Gs w w2 V0 V1 V2) (o : Obj) : Gs w (w2.alloc o) V0 V1 V2 := h.app ((Below.refl _ _).alloc (Nat.le_refl _) o)
end
theorem SinceB.app {K : Nat} {w0 w w' : World} (h : SinceB K w0 w) (hb : Below w.heap.size w w') (hK : K ≤ w0.heap.size) : SinceB K w0 w' := h.below hb (Nat.le_trans hK h.size)
theorem SinceB.allocK {K : Nat} {w0 w : World} (h : SinceB K w0 w) (hK : K ≤ w0.heap.size) (o : Obj) : SinceB K w0 (w.alloc o) := h.alloc (Nat.le_trans hK h.size) o
section
variable {w W : World} {g : GameT} {g0 n c0 g1 p c1 g2 q c2 : Nat} {lo : Nat}
theorem gm_own3 (h0 : Own encEnt 5 82 W lo (.slice (some ⟨g0, 0, none⟩) n c0) g.1) (h1 : Own encI 1 3 W lo (.slice (some ⟨g1, 0, none⟩) p c1) g.2.1) (h2 : Own encI 1 3 W lo (.slice (some ⟨g2, 0, none⟩) q c2) g.2.2) :
    GmD W (fun b => lo ≤ b ∧ b < W.heap.size) (some ⟨g0, 0, none⟩) n c0 (some ⟨g1, 0, none⟩) p c1 (some ⟨g2, 0, none⟩) q c2 g :=
  ⟨h0.rdD encEnt_len (fun b h h' => ⟨h, h'⟩), h1.rdD encI_len (fun b h h' => ⟨h, h'⟩), h2.rdD encI_len (fun b h h' => ⟨h, h'⟩), .inr ⟨g0, 0, rfl⟩⟩
theorem copy_fin {y : Nat} (hy : y = w.heap.size + 1) {u0 u1 u2 V0 V1 V2 : Value} (hs : Gs w W V0 V1 V2) (h0 : Own encEnt 5 82 W (w.heap.size + 1 + 1) (.slice (some ⟨g0, 0, none⟩) n c0) g.1) (h1 : Own encI 1 3 W (w.heap.size + 1 + 1) (.slice (some ⟨g1, 0, none⟩) p c1) g.2.1) (h2 : Own encI 1 3 W (w.heap.size + 1 + 1) (.slice (some ⟨g2, 0, none⟩) q c2) g.2.2) :
    GmPost w (fun _ => False) g (.returned (.agg #[.slice (some ⟨g0, 0, none⟩) n c0, .slice (some ⟨g1, 0, none⟩) p c1, .slice (some ⟨g2, 0, none⟩) q c2])) (((W.setCell ⟨y, 0, none⟩ u0).setCell ⟨y, 1, none⟩ u1).setCell ⟨y, 2, none⟩ u2) := by
  subst hy
  have hf := gm_fin (D := fun _ => False) (x := w.heap.size) (y := w.heap.size + 1) (w' := ((W.setCell ⟨w.heap.size + 1, 0, none⟩ u0).setCell ⟨w.heap.size + 1, 1, none⟩ u1).setCell ⟨w.heap.size + 1, 2, none⟩ u2) (by (repeat (first | (with_reducible exact Onl.refl _ _ _) | (with_reducible exact Onl.drewL _ _ _) | (with_reducible refine Onl.set ?_ (by simp) _) | with_reducible refine Onl.drew ?_))) hs.bel (Nat.le_refl _) (Nat.le_succ _) (gm_own3 h0 h1 h2) (fun b hb => ⟨by omega, by omega, .inr ⟨by omega, hb.2⟩⟩)
  exact ⟨_, _, _, _, _, _, _, _, _, rfl, hf.1, hf.2⟩
theorem copy_finD {y : Nat} (hy : y = w.heap.size + 1) {u0 u1 u2 V0 V1 V2 : Value} (hs : Gs w W V0 V1 V2) (h0 : Own encEnt 5 82 W (w.heap.size + 1 + 1) (.slice (some ⟨g0, 0, none⟩) n c0) g.1) (h1 : Own encI 1 3 W (w.heap.size + 1 + 1) (.slice (some ⟨g1, 0, none⟩) p c1) g.2.1) (h2 : Own encI 1 3 W (w.heap.size + 1 + 1) (.slice (some ⟨g2, 0, none⟩) q c2) g.2.2) :
    GmPost w (fun _ => False) g (.returned (.agg #[.slice (some ⟨g0, 0, none⟩) n c0, .slice (some ⟨g1, 0, none⟩) p c1, .slice (some ⟨g2, 0, none⟩) q c2])) (((W.setCell ⟨y, 0, none⟩ u0).setCell ⟨y, 1, none⟩ u1).setCell ⟨y, 2, none⟩ u2).drew := by
  subst hy
  have hf := gm_fin (D := fun _ => False) (x := w.heap.size) (y := w.heap.size + 1) (w' := (((W.setCell ⟨w.heap.size + 1, 0, none⟩ u0).setCell ⟨w.heap.size + 1, 1, none⟩ u1).setCell ⟨w.heap.size + 1, 2, none⟩ u2).drew) (by (repeat (first | (with_reducible exact Onl.refl _ _ _) | (with_reducible exact Onl.drewL _ _ _) | (with_reducible refine Onl.set ?_ (by simp) _) | with_reducible refine Onl.drew ?_))) hs.bel (Nat.le_refl _) (Nat.le_succ _) (gm_own3 h0 h1 h2) (fun b hb => ⟨by omega, by omega, .inr ⟨by omega, hb.2⟩⟩)
  exact ⟨_, _, _, _, _, _, _, _, _, rfl, hf.1, hf.2⟩
end

theorem Below.appR {w W W' : World} (h : Below w.heap.size w W) (hb : Below W.heap.size W W') : Below w.heap.size w W' := h.trans (hb.mono h.size)
theorem Below.allocR {w W : World} (h : Below w.heap.size w W) (o : Obj) : Below w.heap.size w (W.alloc o) := h.alloc h.size o
theorem World.size_drew (w : World) : w.drew.heap.size = w.heap.size := rfl
set_option maxRecDepth 100000 in
set_option maxHeartbeats 8000000 in
theorem l2Copy_c (A : Option Addr) (n c : Nat) (B : Option Addr) (p d : Nat) (E : Option Addr) (q f : Nat) (D : Nat → Prop) (g : GameT) (w : World) (hg : GmD w D A n c B p d E q f g) (hD : ∀ b, D b → b < w.heap.size) (hl : g.1.length ≤ 1000 ∧ g.2.1.length ≤ 1000 ∧ g.2.2.length ≤ 1000) :
    Calls Tryd.prog 24 #[.agg #[.slice A n c, .slice B p d, .slice E q f]] w fun e w' => GmPost w (fun _ => False) g e w' := by
  have hs2 := Gs.made w (.slice A n c) (.slice B p d) (.slice E q f)
  have hg2 := hide (hg.below hs2.bel hD)
  obtain ⟨xx0, xx1, xx2, xf0, xf1, xf2⟩ := hs2.bx.cells
  obtain ⟨yy0, yy1, yy2, yg0, yg1, yg2⟩ := hs2.ry.cells
  have hz2 := hs2.sz
  have hn0 := hide hg.en.len
  have hn1 := hide hg.fl.len
  have hn2 := hide hg.la.len
  have hn0B := hide hl.1
  have hn1B := hide hl.2.1
  have hn2B := hide hl.2.2
  clear hl hg
  go_enter Tryd.func24, Tryd.ntmps24
  go_wp2
  generalize ((w.alloc (.cells #[.slice A n c, .slice B p d, .slice E q f] 35)).alloc (.cells #[.slice none 0 0, .slice none 0 0, .slice none 0 0] 35)) = w2 at *
  have hK2 : w.heap.size + 1 ≤ w2.heap.size := by omega
  have hlx2 := hs2.bx.lt
  have hly2 := hs2.ry.lt
  refine wp_region_O (SinceB (w.heap.size + 1) _) [35] [] [5, 9, 13] (Ord.seg [1, 2, 5, 6, 9, 10] (Ord.three 0 4 8 (Ord.seg [] (Ord.three 3 4 8 (Ord.seg [] (Ord.both 4 8 (Ord.seg [] (Ord.both 7 8 (Ord.seg [8, 11, 12, 13] Ord.done) (Ord.seg [7, 11, 12, 13] Ord.done))) (Ord.seg [4, 7, 11, 12, 13] Ord.done))) (Ord.seg [] (Ord.both 3 8 (Ord.seg [] (Ord.both 7 8 (Ord.seg [8, 11, 12, 13] Ord.done) (Ord.seg [7, 11, 12, 13] Ord.done))) (Ord.seg [3, 7, 11, 12, 13] Ord.done))) (Ord.seg [] (Ord.both 3 4 (Ord.seg [4, 7, 11, 12, 13] Ord.done) (Ord.seg [3, 7, 11, 12, 13] Ord.done))))) (Ord.seg [] (Ord.both 0 8 (Ord.seg [] (Ord.both 3 8 (Ord.seg [] (Ord.both 7 8 (Ord.seg [8, 11, 12, 13] Ord.done) (Ord.seg [7, 11, 12, 13] Ord.done))) (Ord.seg [3, 7, 11, 12, 13] Ord.done))) (Ord.seg [0, 3, 7, 11, 12, 13] Ord.done))) (Ord.seg [] (Ord.both 0 4 (Ord.seg [] (Ord.both 3 4 (Ord.seg [4, 7, 11, 12, 13] Ord.done) (Ord.seg [3, 7, 11, 12, 13] Ord.done))) (Ord.seg [0, 3, 7, 11, 12, 13] Ord.done))))) (by kernel_rfl) (by kernel_rfl) (by kernel_rfl) (SinceB.drew _ _) ?_
  go_wp2_with (first
    | ((with_reducible refine wpT_xs0 ?_ ?_ ?_); (focus rfl); (focus rfl); intro K hK; refine wp_app0 encEnt_len (by omega) encEnt_one _ _ 33 rfl 82 _ 40 Tryd.underlying33 infoEnt rfl (w.heap.size + 1 + 1) _ rfl ?_ ?_ 0 w.heap.size A g.1 n c rfl hn0.out ?_ ?_ ?_; (focus (focus (repeat (first | ((with_reducible refine Emp.newE ?_ _); (focus (first | rfl | (simp; done) | (simp; omega) | omega))) | (with_reducible refine Emp.drew ?_) | (with_reducible refine Emp.alloc ?_ _) | (with_reducible refine Emp.app ?_ hbC) | (with_reducible refine Emp.app ?_ hbB) | (with_reducible refine Emp.app ?_ hbA))))); (focus omega); (focus (refine (hg2.out.en.sl hD).below (B := w2.heap.size) ?_ (by omega); (focus (repeat (first | (with_reducible exact Below.refl _ _) | (with_reducible refine Below.drew ?_) | (with_reducible refine Below.allocR ?_ _) | (with_reducible refine Below.appR ?_ hbC) | (with_reducible refine Below.appR ?_ hbB) | (with_reducible refine Below.appR ?_ hbA)))))); (focus (have h1 := hn0.out; have h2 := hn0B.out; simp only [maxLen]; omega)); intro g0 c0 wA hoA hbA; have hSBwA : SinceB (w.heap.size + 1) w2 wA := (by (focus (repeat (first | (with_reducible exact SinceB.refl _ _) | (with_reducible refine SinceB.drewR ?_) | (with_reducible refine SinceB.allocK ?_ hK2 _) | (with_reducible refine SinceB.app ?_ hbC hK2) | (with_reducible refine SinceB.app ?_ hbB hK2) | (with_reducible refine SinceB.app ?_ hbA hK2))))); have hzwA : w2.heap.size ≤ wA.heap.size := hSBwA.size; have hK := hK)
    | ((with_reducible refine wpT_xs0 ?_ ?_ ?_); (focus rfl); (focus rfl); intro K hK; refine wp_app0 encI_len (by omega) encI_one _ _ 23 rfl 3 _ 8 Tryd.underlying23 infoI rfl (w.heap.size + 1 + 1) _ rfl ?_ ?_ 0 w.heap.size B g.2.1 p d rfl hn1.out ?_ ?_ ?_; (focus (focus (repeat (first | ((with_reducible refine Emp.newE ?_ _); (focus (first | rfl | (simp; done) | (simp; omega) | omega))) | (with_reducible refine Emp.drew ?_) | (with_reducible refine Emp.alloc ?_ _) | (with_reducible refine Emp.app ?_ hbC) | (with_reducible refine Emp.app ?_ hbB) | (with_reducible refine Emp.app ?_ hbA))))); (focus omega); (focus (refine (hg2.out.fl.sl hD).below (B := w2.heap.size) ?_ (by omega); (focus (repeat (first | (with_reducible exact Below.refl _ _) | (with_reducible refine Below.drew ?_) | (with_reducible refine Below.allocR ?_ _) | (with_reducible refine Below.appR ?_ hbC) | (with_reducible refine Below.appR ?_ hbB) | (with_reducible refine Below.appR ?_ hbA)))))); (focus (have h1 := hn1.out; have h2 := hn1B.out; simp only [maxLen]; omega)); intro g1 c1 wB hoB hbB; have hSBwB : SinceB (w.heap.size + 1) w2 wB := (by (focus (repeat (first | (with_reducible exact SinceB.refl _ _) | (with_reducible refine SinceB.drewR ?_) | (with_reducible refine SinceB.allocK ?_ hK2 _) | (with_reducible refine SinceB.app ?_ hbC hK2) | (with_reducible refine SinceB.app ?_ hbB hK2) | (with_reducible refine SinceB.app ?_ hbA hK2))))); have hzwB : w2.heap.size ≤ wB.heap.size := hSBwB.size; have hK := hK)
    | ((with_reducible refine wpT_xs0 ?_ ?_ ?_); (focus rfl); (focus rfl); intro K hK; refine wp_app0 encI_len (by omega) encI_one _ _ 23 rfl 3 _ 8 Tryd.underlying23 infoI rfl (w.heap.size + 1 + 1) _ rfl ?_ ?_ 0 w.heap.size E g.2.2 q f rfl hn2.out ?_ ?_ ?_; (focus (focus (repeat (first | ((with_reducible refine Emp.newE ?_ _); (focus (first | rfl | (simp; done) | (simp; omega) | omega))) | (with_reducible refine Emp.drew ?_) | (with_reducible refine Emp.alloc ?_ _) | (with_reducible refine Emp.app ?_ hbC) | (with_reducible refine Emp.app ?_ hbB) | (with_reducible refine Emp.app ?_ hbA))))); (focus omega); (focus (refine (hg2.out.la.sl hD).below (B := w2.heap.size) ?_ (by omega); (focus (repeat (first | (with_reducible exact Below.refl _ _) | (with_reducible refine Below.drew ?_) | (with_reducible refine Below.allocR ?_ _) | (with_reducible refine Below.appR ?_ hbC) | (with_reducible refine Below.appR ?_ hbB) | (with_reducible refine Below.appR ?_ hbA)))))); (focus (have h1 := hn2.out; have h2 := hn2B.out; simp only [maxLen]; omega)); intro g2 c2 wC hoC hbC; have hSBwC : SinceB (w.heap.size + 1) w2 wC := (by (focus (repeat (first | (with_reducible exact SinceB.refl _ _) | (with_reducible refine SinceB.drewR ?_) | (with_reducible refine SinceB.allocK ?_ hK2 _) | (with_reducible refine SinceB.app ?_ hbC hK2) | (with_reducible refine SinceB.app ?_ hbB hK2) | (with_reducible refine SinceB.app ?_ hbA hK2))))); have hzwC : w2.heap.size ≤ wC.heap.size := hSBwC.size; have hsC : Gs w wC (.slice A n c) (.slice B p d) (.slice E q f) := (by (focus (repeat (first | (with_reducible exact hs2) | (with_reducible refine Gs.drew ?_) | (with_reducible refine Gs.alloc ?_ _) | (with_reducible refine Gs.app ?_ hbC) | (with_reducible refine Gs.app ?_ hbB) | (with_reducible refine Gs.app ?_ hbA))))); clear yy0 yy1 yy2 yg0 yg1 yg2; obtain ⟨yy0, yy1, yy2, yg0, yg1, yg2⟩ := hsC.ry.cells; have hlyC := hsC.ry.lt; have hK := hK)
    | ((with_reducible refine wpO_seg ?_); simp only [pickL, List.toList_toArray, List.getElem?_cons_succ, List.getElem?_cons_zero]) | ((with_reducible refine wpO_both ?_ ?_) <;> simp only [pickL, List.toList_toArray, List.getElem?_cons_succ, List.getElem?_cons_zero]) | ((with_reducible refine wpO_three ?_ ?_ ?_) <;> simp only [pickL, List.toList_toArray, List.getElem?_cons_succ, List.getElem?_cons_zero]) | ((with_reducible refine wpO_done ?_); try dsimp only) | (with_reducible refine SinceB.and_ ?_ ?_; (focus (repeat (first | (with_reducible exact SinceB.refl _ _) | (with_reducible assumption) | (with_reducible refine SinceB.drewR ?_) | ((with_reducible refine SinceB.alloc ?_ ?_ _); rotate_left; (focus (first | (with_reducible assumption) | (simp; done) | (simp; omega) | omega))) | ((with_reducible refine SinceB.set ?_ ?_ _); rotate_left; (focus (first | omega | (simp; done) | (simp; omega))))))); intro hS) | ((with_reducible refine wpT_noL ?_ ?_); (focus (first | exact wanted_no _ _ _ rfl rfl rfl | exact wanted_un _ _ _ rfl rfl rfl)); simp only [setO, List.set_cons_succ, List.set_cons_zero]) | ((with_reducible refine wpT_q0 ?_ ?_ ?_ ?_); (focus rfl); (focus rfl); (focus rfl); intro K hK) | ((with_reducible refine wpT_i ?_ ?_); (focus (refine ⟨_, _, _, _, _, _, _, _, rfl, rfl, rfl, rfl, rfl, ?_⟩; omega)); intro K hK) | ((with_reducible refine wpT_ncw ?_ ?_ ?_); (focus (first | exact .inl rfl | exact .inr (wanted_yes _ _ _ rfl rfl rfl))); (focus exact ⟨_, _, rfl, rfl, rfl⟩); intro K hK) | ((with_reducible apply wpT_lB); (focus rfl); (focus rfl); (focus rfl); (focus rfl); (focus (first | exact SinceB.drew _ _ | (with_reducible assumption))); (focus (simp <;> omega)); (focus go_simp); intro K hK) | ((with_reducible apply wpT_lwB); (focus exact wanted_yes _ _ _ rfl rfl rfl); (focus rfl); (focus rfl); (focus rfl); (focus (first | exact SinceB.drew _ _ | (with_reducible assumption))); (focus (simp <;> omega)); (focus go_simp); intro K hK) | ((with_reducible refine wpT_xs0 ?_ ?_ ?_); (focus rfl); (focus rfl); intro K hK) | ((with_reducible refine wpT_q1 ?_ ?_ ?_ ?_); (focus exact wanted_yes _ _ _ rfl rfl rfl); (focus rfl); (focus rfl); intro K hK) | ((with_reducible refine wpT_xs1 ?_ ?_ ?_); (focus exact wanted_yes _ _ _ rfl rfl rfl); (focus rfl); intro K hK) | ((with_reducible refine wpT_nil ?_); try dsimp only)
    | fail)
  all_goals refine bodyPost_ret (v := .agg #[.slice (some ⟨g0, 0, none⟩) n c0, .slice (some ⟨g1, 0, none⟩) p c1, .slice (some ⟨g2, 0, none⟩) q c2]) (by simp [results, Tryd.results24, go_sem, yy0, yy1, yy2, yg0, yg1, yg2]) rfl ?_
  all_goals first
    | exact copy_fin rfl hsC (by (focus (repeat (first | (with_reducible exact hoA) | (with_reducible refine Own.drew ?_) | (with_reducible refine Own.alloc ?_ _) | (with_reducible refine Own.app ?_ hbC) | (with_reducible refine Own.app ?_ hbB) | (with_reducible refine Own.app ?_ hbA))))) (by (focus (repeat (first | (with_reducible exact hoB) | (with_reducible refine Own.drew ?_) | (with_reducible refine Own.alloc ?_ _) | (with_reducible refine Own.app ?_ hbC) | (with_reducible refine Own.app ?_ hbB) | (with_reducible refine Own.app ?_ hbA))))) hoC
    | exact copy_finD rfl hsC (by (focus (repeat (first | (with_reducible exact hoA) | (with_reducible refine Own.drew ?_) | (with_reducible refine Own.alloc ?_ _) | (with_reducible refine Own.app ?_ hbC) | (with_reducible refine Own.app ?_ hbB) | (with_reducible refine Own.app ?_ hbA))))) (by (focus (repeat (first | (with_reducible exact hoB) | (with_reducible refine Own.drew ?_) | (with_reducible refine Own.alloc ?_ _) | (with_reducible refine Own.app ?_ hbC) | (with_reducible refine Own.app ?_ hbB) | (with_reducible refine Own.app ?_ hbA))))) hoC
end Go.Proofs.YtajmfonepnkofaaDoor
namespace Go.Proofs.YtajmfonepnkofaaDoor
open Go.RowKit Rg
set_option linter.unusedVariables false
set_option linter.unusedSimpArgs false

/-- The floor behind so many pieces of gold. -/
def flo (k : Nat) : List Int := (List.range k).foldl (fun l i => l.set (i * 5 % 16) (l.getD (i * 5 % 16) 0 + 1)) (List.replicate 16 0)
theorem flo_succ (k : Nat) : flo (k + 1) = (flo k).set (k * 5 % 16) ((flo k).getD (k * 5 % 16) 0 + 1) := by
  unfold flo; rw [List.range_succ, List.foldl_append]; rfl
theorem flo_len : ∀ k, (flo k).length = 16
  | 0 => rfl
  | k + 1 => by rw [flo_succ, List.length_set, flo_len k]
theorem flo_20 : flo 20 = newG.2.1 := by decide +kernel
theorem flo_le : ∀ (k : Nat), ∀ x ∈ flo k, 0 ≤ x ∧ x ≤ (k : Int)
  | 0, x, h => by
    have : x = 0 := List.eq_of_mem_replicate h
    subst this; simp
  | k + 1, x, h => by
    rw [flo_succ] at h
    rcases List.mem_or_eq_of_mem_set h with h | h
    · have := flo_le k x h; omega
    · have hl : k * 5 % 16 < (flo k).length := by rw [flo_len]; omega
      have := flo_le k _ (getD_mem (d := (0 : Int)) hl)
      omega
/-- The boxes of 'l2New': three blocks in any order. -/
def NewC (w : World) (a0 : Nat → Nat → Nat → Act) (x : Exit) (a : Act) (w' : World) : Prop := x = .normal ∧ ∃ bx b1 b2 : Nat, a = a0 bx b1 b2 ∧
  Hid (w.heap.size < bx ∧ w.heap.size < b1 ∧ w.heap.size < b2 ∧ bx ≠ b1 ∧ bx ≠ b2 ∧ b1 ≠ b2) ∧ Bx3 w' w.heap.size (.slice none 0 0) (.slice none 0 0) (.slice none 0 0) 35 ∧ Bx3 w' bx (.slice none 0 0) (.slice (some ⟨b1, 0, none⟩) 16 16) (.slice (some ⟨b2, 0, none⟩) 4 4) 35 ∧
  Own encI 1 3 w' (w.heap.size + 1) (.slice (some ⟨b1, 0, none⟩) 16 16) (List.replicate 16 0) ∧ Own encI 1 3 w' (w.heap.size + 1) (.slice (some ⟨b2, 0, none⟩) 4 4) (List.replicate 4 0) ∧ Below w.heap.size w w'
theorem makeI_c (n : Nat) (hn : n ≤ 1000) (W : World) : (Instr.makeSlice 23 (.int .i64 (n : Int)) (.int .i64 (n : Int))).run Tryd.prog W = .ok (.slice (some ⟨W.heap.size, 0, none⟩) n n) (W.alloc (.cells (madeCells #[.int .i64 0] n) 3)) := by
  have h := run_make_n (P := Tryd.prog) 23 3 (info_parts infoI).choose _ Tryd.underlying23 (info_parts infoI).choose_spec.1 (info_parts infoI).choose_spec.2.1 .i64 .i64 n (by rw [(info_parts infoI).choose_spec.2.2.2]; omega) (by omega) W
  rw [(info_parts infoI).choose_spec.2.2.1, Nat.mul_one] at h
  exact h
theorem Bx3.newE {w : World} {b : Nat} {v0 v1 v2 : Value} {t : TypeId} (h : b = w.heap.size) : Bx3 (w.alloc (.cells #[v0, v1, v2] t)) b v0 v1 v2 t := by rw [h]; exact Bx3.made w v0 v1 v2 t
theorem Bx3.alloc {w : World} {b : Nat} {v0 v1 v2 : Value} {t : TypeId} (h : Bx3 w b v0 v1 v2 t) (o : Obj) : Bx3 (w.alloc o) b v0 v1 v2 t := h.below ((Below.refl _ _).alloc (Nat.le_refl _) o) h.lt
theorem Bx3.drew {w : World} {b : Nat} {v0 v1 v2 : Value} {t : TypeId} (h : Bx3 w b v0 v1 v2 t) : Bx3 w.drew b v0 v1 v2 t := h
theorem ownI_made {w : World} {b lo : Nat} (n : Nat) (hn : n ≤ 1000) (h : b = w.heap.size) (hlo : lo ≤ b) : Own encI 1 3 (w.alloc (.cells (madeCells #[.int .i64 0] n) 3)) lo (.slice (some ⟨b, 0, none⟩) n n) (List.replicate n 0) := by
  subst h
  have := own_made encI_len (by omega) 3 w lo n 0 (.int .i64 0) rfl hlo (by unfold maxLen; omega)
  rw [Nat.mul_one] at this
  exact this

set_option maxRecDepth 100000 in
set_option maxHeartbeats 2000000 in
theorem l2New_c (w : World) : Calls Tryd.prog 97 #[] w fun e w' => GmPost w (fun _ => False) newG e w' := by
  have hmk16 : ∀ W, (Instr.makeSlice 23 (.int .i64 16) (.int .i64 16)).run Tryd.prog W = .ok (.slice (some ⟨W.heap.size, 0, none⟩) 16 16) (W.alloc (.cells (madeCells #[.int .i64 0] 16) 3)) := fun W => makeI_c 16 (by omega) W
  have hmk4 : ∀ W, (Instr.makeSlice 23 (.int .i64 4) (.int .i64 4)).run Tryd.prog W = .ok (.slice (some ⟨W.heap.size, 0, none⟩) 4 4) (W.alloc (.cells (madeCells #[.int .i64 0] 4) 3)) := fun W => makeI_c 4 (by omega) W
  go_enter Tryd.func97, Tryd.ntmps97
  go_wp2
  refine Code.wp_mono (Q := NewC w (fun bx b1 b2 => { tmps := #[.pointer (some ⟨w.heap.size, 0, none⟩), .pointer (some ⟨bx, 0, none⟩), undef, undef, .slice (some ⟨b1, 0, none⟩) 16 16, .slice (some ⟨b2, 0, none⟩) 4 4, .agg #[.slice none 0 0, .slice (some ⟨b1, 0, none⟩) 16 16, .slice (some ⟨b2, 0, none⟩) 4 4], undef, undef, undef, undef, undef, undef, undef, undef, undef, undef, undef, undef, undef, undef, undef, undef, undef, undef, undef, undef, undef], defers := [] })) ?_ ?_
  rotate_left
  · refine wp_region_O (fun _ => True) [] [6] [] (Ord.seg [] (Ord.three 0 1 3 (Ord.seg [] (Ord.both 1 3 (Ord.seg [] (Ord.both 2 3 (Ord.seg [3, 4] Ord.done) (Ord.seg [2, 4] Ord.done))) (Ord.seg [1, 2, 4] Ord.done))) (Ord.seg [] (Ord.both 0 3 (Ord.seg [] (Ord.both 2 3 (Ord.seg [3, 4] Ord.done) (Ord.seg [2, 4] Ord.done))) (Ord.seg [0, 2, 4] Ord.done))) (Ord.seg [] (Ord.both 0 1 (Ord.seg [1, 2, 4] Ord.done) (Ord.seg [0, 2, 4] Ord.done))))) (by kernel_rfl) (by kernel_rfl) (by kernel_rfl) trivial ?_
    go_wp2_with (first
      | ((with_reducible refine wpO_seg ?_); simp only [pickL, List.toList_toArray, List.getElem?_cons_succ, List.getElem?_cons_zero]) | ((with_reducible refine wpO_both ?_ ?_) <;> simp only [pickL, List.toList_toArray, List.getElem?_cons_succ, List.getElem?_cons_zero]) | ((with_reducible refine wpO_three ?_ ?_ ?_) <;> simp only [pickL, List.toList_toArray, List.getElem?_cons_succ, List.getElem?_cons_zero]) | ((with_reducible refine wpO_done ?_); try dsimp only) | ((with_reducible refine wpT_q0 ?_ ?_ ?_ ?_); (focus rfl); (focus rfl); (focus rfl); intro K hK) | ((with_reducible refine wpT_x0 ?_ ?_ ?_); (focus rfl); (focus rfl); intro K hK) | ((with_reducible refine wpT_noL ?_ ?_); (focus (first | exact wanted_no _ _ _ rfl rfl rfl | exact wanted_un _ _ _ rfl rfl rfl)); simp only [setO, List.set_cons_succ, List.set_cons_zero]) | ((with_reducible refine wpT_q1 ?_ ?_ ?_ ?_); (focus exact wanted_yes _ _ _ rfl rfl rfl); (focus rfl); (focus rfl); intro K hK) | ((with_reducible refine wpT_x1 ?_ ?_ ?_); (focus exact wanted_yes _ _ _ rfl rfl rfl); (focus rfl); intro K hK) | ((with_reducible refine wpT_nil ?_); try dsimp only)
      | fail)
    all_goals
      refine ⟨rfl, _, _, _, rfl, hide (by first | omega | (simp only [World.size_alloc, World.size_drew]; omega)), ?_, ?_, ?_, ?_, ?_⟩
      · (focus (repeat (first | ((with_reducible refine Bx3.newE ?_); (focus (first | rfl | (simp; done) | (simp; omega) | omega))) | (with_reducible refine Bx3.drew ?_) | (with_reducible refine Bx3.alloc ?_ _))))
      · (focus (repeat (first | ((with_reducible refine Bx3.newE ?_); (focus (first | rfl | (simp; done) | (simp; omega) | omega))) | (with_reducible refine Bx3.drew ?_) | (with_reducible refine Bx3.alloc ?_ _))))
      · (focus (repeat (first | ((with_reducible refine ownI_made 16 (by omega) ?_ ?_); (focus (first | rfl | (simp; done) | (simp; omega) | omega)); (focus (first | (simp; done) | (simp; omega) | omega))) | (with_reducible refine Own.drew ?_) | (with_reducible refine Own.alloc ?_ _))))
      · (focus (repeat (first | ((with_reducible refine ownI_made 4 (by omega) ?_ ?_); (focus (first | rfl | (simp; done) | (simp; omega) | omega)); (focus (first | (simp; done) | (simp; omega) | omega))) | (with_reducible refine Own.drew ?_) | (with_reducible refine Own.alloc ?_ _))))
      · (focus (repeat (first | (with_reducible exact Below.refl _ _) | (with_reducible refine Below.drew ?_) | (with_reducible refine Below.allocR ?_ _))))
  · rintro x a w1 ⟨rfl, bx, b1, b2, rfl, hne, hr0, hbx, ho1, ho2, hb1⟩
    have ho1 : Own encI 1 3 w1 (w.heap.size + 1) (.slice (some ⟨b1, 0, none⟩) 16 16) (flo 0) := ho1
    have hbx' := hide hbx
    have hr0' := hide hr0
    obtain ⟨xx0, xx1, xx2, xf0, xf1, xf2⟩ := hbx.cells
    have hlx := hbx.lt
    clear hbx hr0
    go_wp2
    go_loopw [2] (fun i wr => ∃ k : Nat, k ≤ 20 ∧ i = .int .i64 (k : Int) ∧ Own encI 1 3 wr (w.heap.size + 1) (.slice (some ⟨b1, 0, none⟩) 16 16) (flo k) ∧ Onl b1 b1 w1 wr) (fun i _ => 20 - (intOf i).toNat)
    case atStart => exact ⟨0, by omega, rfl, ho1, Onl.refl _ _ _⟩
    case round =>
      obtain ⟨k, hk, rfl, hor, hon⟩ := hrel
      have hne' := hne.out
      have hbr := hbx'.out.keep (hon.blk bx (by omega) (by omega))
      have hsz := hon.size
      clear xx0 xx1 xx2 xf0 xf1 xf2
      obtain ⟨xx0, xx1, xx2, xf0, xf1, xf2⟩ := hbr.cells
      have hlxr := hbr.lt
      by_cases hlt : k < 20
      · obtain ⟨j, hj⟩ : ∃ j, j = k * 5 % 16 := ⟨_, rfl⟩
        have hj16 : j < 16 := by omega
        have hjl : j < (flo k).length := by rw [flo_len]; exact hj16
        have hrem : (((k : Int) * 5).tmod 16) = (j : Int) := by rw [show (k : Int) * 5 = ((k * 5 : Nat) : Int) by omega]; exact (Int.ofNat_tmod (k * 5) 16).symm.trans (by rw [hj])
        have a1 := (hor.slAt encI_len).2.2.i64 hjl
        simp only [Nat.zero_add] at a1
        have f1 := hor.frozen j
        have hfl := flo_le k _ (List.getElem_mem hjl)
        have hg1 := (hor.lt b1 (by simp [Value.ownBlock])).2
        have hsucc := hide (show flo (k + 1) = (flo k).set j ((flo k)[j] + 1) by rw [flo_succ, ← hj, getD_at hjl])
        have hjh := hide hj
        clear hj
        go_wp2
        refine wp_region_T (fun _ => True) [] [] [] [0, 1, 2, 3, 4, 5, 6, 7, 8, 9, 10] (by kernel_rfl) (by kernel_rfl) (by kernel_rfl) trivial ?_; simp only [pickL, List.getElem?_cons_succ, List.getElem?_cons_zero]
        go_wp2_with (first
          | ((with_reducible refine wpT_q0 ?_ ?_ ?_ ?_); (focus rfl); (focus rfl); (focus rfl); intro K hK) | ((with_reducible refine wpT_x0 ?_ ?_ ?_); (focus rfl); (focus rfl); intro K hK) | ((with_reducible refine wpT_noL ?_ ?_); (focus (first | exact wanted_no _ _ _ rfl rfl rfl | exact wanted_un _ _ _ rfl rfl rfl)); simp only [setO, List.set_cons_succ, List.set_cons_zero]) | ((with_reducible refine wpT_q1 ?_ ?_ ?_ ?_); (focus exact wanted_yes _ _ _ rfl rfl rfl); (focus rfl); (focus rfl); intro K hK) | ((with_reducible refine wpT_x1 ?_ ?_ ?_); (focus exact wanted_yes _ _ _ rfl rfl rfl); (focus rfl); intro K hK) | ((with_reducible refine wpT_nil ?_); try dsimp only)
          | fail)
        go_roundw
        case rel =>
          refine ⟨k + 1, by omega, by go_num, ?_, (hon.drew).set (.inl rfl) _⟩
          rw [hsucc.out]
          have h9 := hor.put1 encI_len hjl ((flo k)[j] + 1) 0 (by omega) (.int .i64 ((flo k)[j] + 1)) rfl
          rw [Nat.mul_one, Nat.add_zero] at h9
          exact h9
        case measure => simp [intOf]; omega
      · obtain rfl : k = 20 := by omega
        have hr0r := hr0'.out.keep (hon.blk w.heap.size (by omega) (by omega))
        obtain ⟨yy0, yy1, yy2, yg0, yg1, yg2⟩ := hr0r.cells
        have hlyr := hr0r.lt
        have hnn := hide hne'
        go_wp2
        refine bodyPost_ret (v := .agg #[.slice none 0 0, .slice (some ⟨b1, 0, none⟩) 16 16, .slice (some ⟨b2, 0, none⟩) 4 4]) (by simp [results, Tryd.results97, go_sem, yy0, yy1, yy2, yg0, yg1, yg2]) rfl ?_
        have hf := gm_fin (D := fun _ => False) (D' := fun b => w.heap.size + 1 ≤ b ∧ b < wr.heap.size) (x := w.heap.size) (y := w.heap.size) (w := w) (w9 := wr) (g := newG) (A := none) (n := 0) (c := 0) (w' := ((wr.setCell ⟨w.heap.size, 0, none⟩ (.slice none 0 0)).setCell ⟨w.heap.size, 1, none⟩ (.slice (some ⟨b1, 0, none⟩) 16 16)).setCell ⟨w.heap.size, 2, none⟩ (.slice (some ⟨b2, 0, none⟩) 4 4)) (by (repeat (first | (with_reducible exact Onl.refl _ _ _) | (with_reducible exact Onl.drewL _ _ _) | (with_reducible refine Onl.set ?_ (by simp) _) | with_reducible refine Onl.drew ?_))) (hon.bel _ _ (by omega) (by omega) hb1) (Nat.le_refl _) (Nat.le_refl _)
          ⟨⟨rfl, Nat.le_refl _, by simp [maxLen], fun h => absurd rfl h⟩, by rw [← flo_20]; exact hor.rdD encI_len (fun b h h' => ⟨h, h'⟩), (ho2.keep (w' := wr) (fun b hb => hon.blk b (by simp [Value.ownBlock] at hb; omega) (by simp [Value.ownBlock] at hb; omega))).rdD encI_len (fun b h h' => ⟨h, h'⟩), .inl ⟨rfl, rfl, rfl⟩⟩ (fun b hb => ⟨by omega, by omega, .inr ⟨by omega, hb.2⟩⟩)
        exact ⟨none, 0, 0, some ⟨b1, 0, none⟩, 16, 16, some ⟨b2, 0, none⟩, 4, 4, rfl, hf.1, hf.2⟩

end Go.Proofs.YtajmfonepnkofaaDoor
namespace Go.Proofs.YtajmfonepnkofaaDoor
open Go.RowKit Rg
set_option linter.unusedVariables false
set_option linter.unusedSimpArgs false

abbrev ReqT := Int × Int × Int × Int × Int
def encReq (t : ReqT) : List Value := [.int .i64 t.1, .int .i64 t.2.1, .int .i64 t.2.2.1, .int .i64 t.2.2.2.1, .int .i64 t.2.2.2.2]
theorem encReq_len (t : ReqT) : (encReq t).length = 5 := rfl
theorem encReq_one (t : ReqT) : ∀ u ∈ encReq t, u.oneCell' = true := by
  intro u hu; simp [encReq] at hu; rcases hu with rfl | rfl | rfl | rfl | rfl <;> rfl
theorem Sl.getReq {w : World} {lo hi b off k : Nat} {xs : List ReqT} (h : Sl encReq 5 w lo hi (some ⟨b, off, none⟩) xs) (hk : k < xs.length) :
    w.cell? ⟨b, off + k * 5, none⟩ = some (.int .i64 xs[k].1) ∧ w.cell? ⟨b, off + k * 5 + 1, none⟩ = some (.int .i64 xs[k].2.1) ∧ w.cell? ⟨b, off + k * 5 + 2, none⟩ = some (.int .i64 xs[k].2.2.1) ∧ w.cell? ⟨b, off + k * 5 + 3, none⟩ = some (.int .i64 xs[k].2.2.2.1) ∧ w.cell? ⟨b, off + k * 5 + 4, none⟩ = some (.int .i64 xs[k].2.2.2.2) :=
  ⟨h.at_ hk 0 _ rfl, h.at_ hk 1 _ rfl, h.at_ hk 2 _ rfl, h.at_ hk 3 _ rfl, h.at_ hk 4 _ rfl⟩
theorem infoReq : (Tryd.prog.info? 37).map (fun i => (i.zero, i.size, i.bytes)) = some (some (.agg #[.int .i64 0, .int .i64 0, .int .i64 0, .int .i64 0, .int .i64 0]), 5, 40) := by kernel_rfl
theorem Own.someReq {w : World} {lo g n c k : Nat} {e : TypeId} {xs : List ReqT} (h : Own encReq 5 e w lo (.slice (some ⟨g, 0, none⟩) n c) xs) (hk : k < n) :
    ∃ z0 z1 z2 z3 z4 : Int, w.cell? ⟨g, k * 5, none⟩ = some (.int .i64 z0) ∧ w.cell? ⟨g, k * 5 + 1, none⟩ = some (.int .i64 z1) ∧ w.cell? ⟨g, k * 5 + 2, none⟩ = some (.int .i64 z2) ∧ w.cell? ⟨g, k * 5 + 3, none⟩ = some (.int .i64 z3) ∧ w.cell? ⟨g, k * 5 + 4, none⟩ = some (.int .i64 z4) := by
  obtain ⟨rfl, _, hs⟩ := h.slAt encReq_len
  have := hs.getReq hk
  simp only [Nat.zero_add] at this
  exact ⟨_, _, _, _, _, this⟩

theorem toReq_c (t : ReqT) (w : World) : Calls Tryd.prog 8 #[.agg #[.int .i64 t.1, .int .i64 t.2.1, .int .i64 t.2.2.1, .int .i64 t.2.2.2.1, .int .i64 t.2.2.2.2]] w fun e w' => e = .returned (.agg #[.int .i64 t.1, .int .i64 t.2.1, .int .i64 t.2.2.1, .int .i64 t.2.2.2.1, .int .i64 t.2.2.2.2]) ∧ Below w.heap.size w w' := by
  go_enter Tryd.func8, Tryd.ntmps8
  go_wp2
  exact bodyPost_ret (v := .agg #[.int .i64 t.1, .int .i64 t.2.1, .int .i64 t.2.2.1, .int .i64 t.2.2.2.1, .int .i64 t.2.2.2.2]) (by simp [results, Tryd.results8, go_sem]) rfl ⟨rfl, by first | exact Below.refl _ _ | (refine Below.alloc ?_ (by simp <;> omega) _; first | exact Below.refl _ _ | (refine Below.alloc ?_ (by simp <;> omega) _; first | exact Below.refl _ _ | (refine Below.alloc ?_ (by simp <;> omega) _; exact Below.refl _ _)))⟩

/-- What 'markReqS' writes, from k on. -/
def marksReq (k : Int) (n : Nat) : List ReqT := (List.range n).map fun (i : Nat) => (k + 5 * (i : Int), k + 5 * (i : Int) + 1, k + 5 * (i : Int) + 2, k + 5 * (i : Int) + 3, k + 5 * (i : Int) + 4)
theorem marksReq_len (k : Int) (n : Nat) : (marksReq k n).length = n := by simp [marksReq]
theorem marksReq_get (k : Int) (n i : Nat) (h : i < (marksReq k n).length) : (marksReq k n)[i] = (k + 5 * (i : Int), k + 5 * (i : Int) + 1, k + 5 * (i : Int) + 2, k + 5 * (i : Int) + 3, k + 5 * (i : Int) + 4) := by simp [marksReq]
theorem marksReq_succ (k : Int) (n : Nat) : marksReq k (n + 1) = marksReq k n ++ [(k + 5 * (n : Int), k + 5 * (n : Int) + 1, k + 5 * (n : Int) + 2, k + 5 * (n : Int) + 3, k + 5 * (n : Int) + 4)] := by
  simp [marksReq, List.range_succ]
theorem marksReq_set (k : Int) (j : Nat) (xs : List ReqT) (h : j < xs.length) : (marksReq k j ++ xs.drop j).set j (k + 5 * (j : Int), k + 5 * (j : Int) + 1, k + 5 * (j : Int) + 2, k + 5 * (j : Int) + 3, k + 5 * (j : Int) + 4) = marksReq k (j + 1) ++ xs.drop (j + 1) := by
  rw [List.set_append_right _ _ (by rw [marksReq_len]; omega), marksReq_len, Nat.sub_self, List.drop_eq_getElem_cons h, List.set_cons_zero, marksReq_succ, List.append_assoc]
  rfl
end Go.Proofs.YtajmfonepnkofaaDoor
namespace Go.Proofs.YtajmfonepnkofaaDoor
open Go.RowKit Rg
set_option linter.unusedVariables false
set_option linter.unusedSimpArgs false

theorem foldG_take {g : GameT} {rs : List AskT} {k : Nat} (hk : k < rs.length) : foldG g (rs.take (k + 1)) = (doG (foldG g (rs.take k)) rs[k]).1 := by
  rw [List.take_succ_eq_append_getElem hk, foldG_snoc]
theorem foldG_ok {rs : List AskT} (h : ∀ r ∈ rs, okNA r) (k : Nat) : okG (foldG newG (rs.take k)) := okG.folding newG_ok (fun r hr => h r (List.mem_of_mem_take hr))
theorem Bx3.sets {w : World} {b : Nat} {v0 v1 v2 : Value} {t : TypeId} (h : Bx3 w b v0 v1 v2 t) (u0 u1 u2 : Value) : Bx3 (((w.setCell ⟨b, 0, none⟩ u0).setCell ⟨b, 1, none⟩ u1).setCell ⟨b, 2, none⟩ u2) b u0 u1 u2 t := ((h.set0 u0).set1 u1).set2 u2
/-- The state of a fold: where the game stands. -/
def FoldS (w wr : World) (b3 : Nat) (g : GameT) : Prop := ∃ (A : Option Addr) (n c : Nat) (B : Option Addr) (p d : Nat) (E : Option Addr) (q f : Nat),
  Bx3 wr b3 (.slice A n c) (.slice B p d) (.slice E q f) 35 ∧ GmD wr (fun b => w.heap.size + 1 ≤ b ∧ b ≠ b3 ∧ b < wr.heap.size) A n c B p d E q f g ∧ Bx3 wr w.heap.size (.slice none 0 0) (.slice none 0 0) (.slice none 0 0) 35 ∧ Below w.heap.size w wr
theorem FoldS.mk {w w6 X : World} {b3 t : Nat} {v0 v1 v2 : Value} {D6 : Nat → Prop} {A : Option Addr} {n c : Nat} {B : Option Addr} {p d : Nat} {E : Option Addr} {q f : Nat} {g : GameT} (hx : Bx3 w6 b3 v0 v1 v2 35) (hr : Bx3 w6 w.heap.size (.slice none 0 0) (.slice none 0 0) (.slice none 0 0) 35) (hg : GmD w6 D6 A n c B p d E q f g)
    (hD : ∀ b, D6 b → w.heap.size + 1 ≤ b ∧ b ≠ b3 ∧ b < w6.heap.size ∧ b ≠ t) (h3 : w.heap.size + 1 ≤ b3) (h3t : b3 ≠ t) (ht : w.heap.size ≠ t) (hX : ∀ b, b < w6.heap.size → b ≠ t → X.heap[b]? = w6.heap[b]?) (hXs : w6.heap.size ≤ X.heap.size) (hXb : Below w.heap.size w X) :
    FoldS w (((X.setCell ⟨b3, 0, none⟩ (.slice A n c)).setCell ⟨b3, 1, none⟩ (.slice B p d)).setCell ⟨b3, 2, none⟩ (.slice E q f)) b3 g := by
  have hO : Onl b3 b3 X (((X.setCell ⟨b3, 0, none⟩ (.slice A n c)).setCell ⟨b3, 1, none⟩ (.slice B p d)).setCell ⟨b3, 2, none⟩ (.slice E q f)) := by (repeat (first | (with_reducible exact Onl.refl _ _ _) | (with_reducible exact Onl.drewL _ _ _) | (with_reducible refine Onl.set ?_ (by simp) _) | with_reducible refine Onl.drew ?_))
  have hxX : Bx3 X b3 v0 v1 v2 35 := (hX b3 hx.lt h3t).trans hx
  refine ⟨A, n, c, B, p, d, E, q, f, hxX.sets _ _ _, ((hg.keep (fun b hb => (hX b (hD b hb).2.2.1 (hD b hb).2.2.2))).keep (fun b hb => hO.blk b (hD b hb).2.1 (hD b hb).2.1)).mono (fun b hb => ⟨(hD b hb).1, (hD b hb).2.1, by rw [hO.size]; have := (hD b hb).2.2.1; omega⟩), ?_, hO.bel _ _ (by omega) (by omega) hXb⟩
  exact (hO.blk _ (by omega) (by omega)).trans ((hX _ hr.lt ht).trans hr)
theorem FoldS.drew {w wr : World} {b3 : Nat} {g : GameT} (h : FoldS w wr b3 g) : FoldS w wr.drew b3 g := by
  obtain ⟨A, n, c, B, p, d, E, q, f, h1, h2, h3, h4⟩ := h
  exact ⟨A, n, c, B, p, d, E, q, f, h1, h2.keep (fun _ _ => rfl), h3, h4.drew⟩
theorem FoldS.alloc {w wr : World} {b3 : Nat} {g : GameT} (h : FoldS w wr b3 g) (o : Obj) : FoldS w (wr.alloc o) b3 g := by
  obtain ⟨A, n, c, B, p, d, E, q, f, h1, h2, h3, h4⟩ := h
  have hA := (Below.refl wr.heap.size wr).alloc (Nat.le_refl _) o
  exact ⟨A, n, c, B, p, d, E, q, f, h1.below hA h1.lt, (h2.below hA (fun b hb => hb.2.2)).mono (fun b hb => ⟨hb.1, hb.2.1, by have := hb.2.2; simp only [World.size_alloc]; omega⟩), h3.below hA h3.lt, h4.trans (hA.mono h4.size)⟩
theorem FoldS.bel {w wr : World} {b3 : Nat} {g : GameT} (h : FoldS w wr b3 g) : Below w.heap.size w wr := by
  obtain ⟨A, n, c, B, p, d, E, q, f, h1, h2, h3, h4⟩ := h
  exact h4

set_option maxRecDepth 100000 in
set_option maxHeartbeats 2000000 in
theorem l2Fold_c (A : Option Addr) (n c lo hi : Nat) (rs : List ReqT) (w : World) (hn : n = rs.length) (hb : n ≤ 1048576) (hs : Sl encReq 5 w lo hi A rs) (hhi : hi ≤ w.heap.size) (hokr : ∀ r ∈ rs, okNA r) :
    Calls Tryd.prog 82 #[.slice A n c] w fun e w' => GmPost w (fun _ => False) (foldG newG rs) e w' := by
  have hn' := hide hn
  have hok := hide hokr
  clear hn hokr
  have hA0 := (Below.refl w.heap.size w).alloc (Nat.le_refl _) (.cells #[.slice none 0 0, .slice none 0 0, .slice none 0 0] 35)
  have hr0 := Bx3.made w (.slice none 0 0) (.slice none 0 0) (.slice none 0 0) 35
  go_enter Tryd.func82, Tryd.ntmps82
  go_wp2_with fail
  refine (l2New_c _).mono ?_
  rintro e w1 ⟨A1, n1, c1, B1, p1, d1, E1, q1, f1, rfl, hg1, hb1⟩
  have hr1 := hr0.below hb1 hr0.lt
  have hB1 := hA0.trans (hb1.mono (by simp))
  have hz1 : w.heap.size + 1 ≤ w1.heap.size := by have := hb1.size; simp only [World.size_alloc] at this; exact this
  have hA1 := (Below.refl w1.heap.size w1).alloc (Nat.le_refl _) (.cells #[.slice A1 n1 c1, .slice B1 p1 d1, .slice E1 q1 f1] 35)
  have hF : FoldS w (w1.alloc (.cells #[.slice A1 n1 c1, .slice B1 p1 d1, .slice E1 q1 f1] 35)) w1.heap.size (foldG newG (rs.take 0)) :=
    ⟨A1, n1, c1, B1, p1, d1, E1, q1, f1, Bx3.made w1 _ _ _ 35, (hg1.below hA1 (fun b hb => by rcases hb with hb | hb; exact hb.elim; exact hb.2)).mono (fun b hb => by
      rcases hb with hb | hb
      · exact hb.elim
      · simp only [World.size_alloc] at hb ⊢
        exact ⟨by omega, by omega, by omega⟩), hr1.below hA1 hr1.lt, hB1.trans (hA1.mono (by omega))⟩
  clear hg1 hr1 hB1 hr0 hb1 hA0 hA1
  have hF' := hide hF
  clear hF
  go_wp2
  go_loopw [4] (fun i wr => ∃ k : Nat, k ≤ n ∧ i = .int .i64 (k : Int) ∧ Hid (FoldS w wr w1.heap.size (foldG newG (rs.take k))) ∧ Below w.heap.size w wr) (fun i _ => n - (intOf i).toNat)
  case atStart => exact ⟨0, Nat.zero_le _, rfl, hF', by obtain ⟨_, _, _, _, _, _, _, _, _, _, _, _, h⟩ := hF'.out; exact h⟩
  case round =>
    obtain ⟨k, hk, rfl, hF, hbr⟩ := hrel
    obtain ⟨A0, n0, c0, B0, p0, d0, E0, q0, f0, hbx0, hg0, hr0, -⟩ := hF.out
    have hg0 := hide hg0
    obtain ⟨xx0, xx1, xx2, xf0, xf1, xf2⟩ := hbx0.cells
    obtain ⟨yy0, yy1, yy2, yg0, yg1, yg2⟩ := hr0.cells
    have hlx3 := hbx0.lt
    have hlr3 := hr0.lt
    clear hF
    by_cases hlt : k < n
    · have hlx : k < rs.length := by have := hn'.out; omega
      obtain ⟨b, off, rfl, hlo1, hbh⟩ := hs.addr hlx
      obtain ⟨a0, a1, a2, a3, a4⟩ := (hs.below hbr hhi).getReq hlx
      have hokg := hide (foldG_ok hok.out k)
      have hbw : b < wr.heap.size := by have := hbr.size; omega
      go_wp2
      refine wp_region_O (SinceB (wr.heap.size) _) [] [] [15, 18, 19] (Ord.seg [0, 1, 2, 3, 4] (Ord.both 5 9 (Ord.seg [6, 7, 8, 9, 10, 11] Ord.done) (Ord.seg [5, 6, 7, 8, 10, 11] Ord.done))) (by kernel_rfl) (by kernel_rfl) (by kernel_rfl) (SinceB.drew _ _) ?_
      go_wp2_with (first
        | (go_at_call 23; refine (l2Do_c A0 n0 c0 B0 p0 d0 E0 q0 f0 (fun b => w.heap.size + 1 ≤ b ∧ b ≠ w1.heap.size ∧ b < wr.heap.size) (foldG newG (rs.take k)) rs[k] _ ?_ ?_ hokg.out.weak (hok.out _ (List.getElem_mem hlx))).mono ?_; (focus (refine hg0.out.below (K := wr.heap.size) ?_ (fun b hb => hb.2.2); (focus (repeat (first | (with_reducible exact Below.refl _ _) | (with_reducible refine Below.drew ?_) | (with_reducible refine Below.allocR ?_ _)))))); (focus (intro b hb; have h9 := hb.2.2; first | exact h9 | (simp only [World.size_alloc, World.size_drew]; omega))); rintro e w6 ⟨A6, n6, c6, B6, p6, d6, E6, q6, f6, rfl, hg6, hb6⟩; have hb06 : Below wr.heap.size wr w6 := (Below.appR (by (focus (repeat (first | (with_reducible exact Below.refl _ _) | (with_reducible refine Below.drew ?_) | (with_reducible refine Below.allocR ?_ _))))) hb6); have hSB6 : SinceB wr.heap.size wr w6 := (SinceB.refl _ _).below hb06 (Nat.le_refl _); have hx6 := hbx0.below hb06 hbx0.lt; have hr6 := hr0.below hb06 hr0.lt; have hlx6 := hx6.lt; have hlr6 := hr6.lt; (try (have ht6 : Bx3 w6 wr.heap.size (.slice none 0 0) (.slice none 0 0) (.slice none 0 0) 35 := Bx3.below (Bx3.drew (Bx3.made wr _ _ _ 35)) hb6 (by simp only [World.size_drew, World.size_alloc]; omega); obtain ⟨tt0, tt1, tt2, tf0, tf1, tf2⟩ := ht6.cells; have hlt6 := ht6.lt)); have hz6 := hb06.size; clear xx0 xx1 xx2 xf0 xf1 xf2 yy0 yy1 yy2 yg0 yg1 yg2; obtain ⟨xx0, xx1, xx2, xf0, xf1, xf2⟩ := hx6.cells)
        | ((with_reducible refine wpO_seg ?_); simp only [pickL, List.toList_toArray, List.getElem?_cons_succ, List.getElem?_cons_zero]) | ((with_reducible refine wpO_both ?_ ?_) <;> simp only [pickL, List.toList_toArray, List.getElem?_cons_succ, List.getElem?_cons_zero]) | ((with_reducible refine wpO_three ?_ ?_ ?_) <;> simp only [pickL, List.toList_toArray, List.getElem?_cons_succ, List.getElem?_cons_zero]) | ((with_reducible refine wpO_done ?_); try dsimp only) | (with_reducible refine SinceB.and_ ?_ ?_; (focus (repeat (first | (with_reducible exact SinceB.refl _ _) | (with_reducible assumption) | (with_reducible refine SinceB.drewR ?_) | ((with_reducible refine SinceB.alloc ?_ ?_ _); rotate_left; (focus (first | (with_reducible assumption) | (simp; done) | (simp; omega) | omega))) | ((with_reducible refine SinceB.set ?_ ?_ _); rotate_left; (focus (first | omega | (simp; done) | (simp; omega))))))); intro hS) | ((with_reducible refine wpT_noL ?_ ?_); (focus (first | exact wanted_no _ _ _ rfl rfl rfl | exact wanted_un _ _ _ rfl rfl rfl)); simp only [setO, List.set_cons_succ, List.set_cons_zero]) | ((with_reducible refine wpT_q0 ?_ ?_ ?_ ?_); (focus rfl); (focus rfl); (focus rfl); intro K hK) | ((with_reducible refine wpT_i ?_ ?_); (focus (refine ⟨_, _, _, _, _, _, _, _, rfl, rfl, rfl, rfl, rfl, ?_⟩; omega)); intro K hK) | ((with_reducible refine wpT_ncw ?_ ?_ ?_); (focus (first | exact .inl rfl | exact .inr (wanted_yes _ _ _ rfl rfl rfl))); (focus exact ⟨_, _, rfl, rfl, rfl⟩); intro K hK) | ((with_reducible apply wpT_lB); (focus rfl); (focus rfl); (focus rfl); (focus rfl); (focus (first | exact SinceB.drew _ _ | (with_reducible assumption))); (focus (simp <;> omega)); (focus go_simp); intro K hK) | ((with_reducible apply wpT_lwB); (focus exact wanted_yes _ _ _ rfl rfl rfl); (focus rfl); (focus rfl); (focus rfl); (focus (first | exact SinceB.drew _ _ | (with_reducible assumption))); (focus (simp <;> omega)); (focus go_simp); intro K hK) | ((with_reducible refine wpT_xs0 ?_ ?_ ?_); (focus rfl); (focus rfl); intro K hK) | ((with_reducible refine wpT_q1 ?_ ?_ ?_ ?_); (focus exact wanted_yes _ _ _ rfl rfl rfl); (focus rfl); (focus rfl); intro K hK) | ((with_reducible refine wpT_xs1 ?_ ?_ ?_); (focus exact wanted_yes _ _ _ rfl rfl rfl); (focus rfl); intro K hK) | ((with_reducible refine wpT_nil ?_); try dsimp only)
        | fail)
      · go_roundw
        case rel =>
          have h5 : FoldS w (((w6.setCell ⟨w1.heap.size, 0, none⟩ (.slice A6 n6 c6)).setCell ⟨w1.heap.size, 1, none⟩ (.slice B6 p6 d6)).setCell ⟨w1.heap.size, 2, none⟩ (.slice E6 q6 f6)) w1.heap.size (foldG newG (rs.take (k + 1))) := by
            rw [foldG_take hlx]
            have h8 := hbr.size
            refine FoldS.mk (t := w6.heap.size) hx6 hr6 hg6 (fun b hb => ?_) hz1 (by omega) (by omega) (fun b h h2 => rfl) (Nat.le_refl _) (hbr.trans (hb06.mono h8))
            have h9 := hb6.size
            try simp only [World.size_alloc, World.size_drew] at h9
            rcases hb with hb | hb
            · exact ⟨hb.1, hb.2.1, by omega, by omega⟩
            · try simp only [World.size_alloc, World.size_drew] at hb
              exact ⟨by omega, by omega, by omega, by omega⟩
          first
            | exact ⟨k + 1, by omega, by go_num, hide (h5.alloc _), (h5.alloc _).bel⟩
            | exact ⟨k + 1, by omega, by go_num, hide (h5.alloc _).drew, (h5.alloc _).drew.bel⟩
        case measure => simp [intOf]; omega
      · go_roundw
        case rel =>
          have h5 : FoldS w (((((((w6.setCell ⟨wr.heap.size, 0, none⟩ (.slice A6 n6 c6)).setCell ⟨wr.heap.size, 1, none⟩ (.slice B6 p6 d6)).setCell ⟨wr.heap.size, 2, none⟩ (.slice E6 q6 f6))).setCell ⟨w1.heap.size, 0, none⟩ (.slice A6 n6 c6)).setCell ⟨w1.heap.size, 1, none⟩ (.slice B6 p6 d6)).setCell ⟨w1.heap.size, 2, none⟩ (.slice E6 q6 f6)) w1.heap.size (foldG newG (rs.take (k + 1))) := by
            rw [foldG_take hlx]
            have h8 := hbr.size
            have hO : Onl wr.heap.size wr.heap.size w6 (((w6.setCell ⟨wr.heap.size, 0, none⟩ (.slice A6 n6 c6)).setCell ⟨wr.heap.size, 1, none⟩ (.slice B6 p6 d6)).setCell ⟨wr.heap.size, 2, none⟩ (.slice E6 q6 f6)) := by (repeat (first | (with_reducible exact Onl.refl _ _ _) | (with_reducible exact Onl.drewL _ _ _) | (with_reducible refine Onl.set ?_ (by simp) _) | with_reducible refine Onl.drew ?_))
            refine FoldS.mk (t := wr.heap.size) hx6 hr6 hg6 (fun b hb => ?_) hz1 (by omega) (by omega) (fun b h h2 => hO.blk b h2 h2) (by rw [hO.size]; omega) (hO.bel _ _ (by omega) (by omega) (hbr.trans (hb06.mono h8)))
            have h9 := hb6.size
            try simp only [World.size_alloc, World.size_drew] at h9
            rcases hb with hb | hb
            · exact ⟨hb.1, hb.2.1, by omega, by omega⟩
            · try simp only [World.size_alloc, World.size_drew] at hb
              exact ⟨by omega, by omega, by omega, by omega⟩
          first
            | exact ⟨k + 1, by omega, by go_num, hide h5, h5.bel⟩
            | exact ⟨k + 1, by omega, by go_num, hide h5.drew, h5.drew.bel⟩
        case measure => simp [intOf]; omega
    · obtain rfl : k = n := by omega
      go_wp2
      refine bodyPost_ret (v := .agg #[.slice A0 n0 c0, .slice B0 p0 d0, .slice E0 q0 f0]) (by simp [results, Tryd.results82, go_sem, yy0, yy1, yy2, yg0, yg1, yg2]) rfl ?_
      have hz := hg0.out
      rw [List.take_of_length_le (by rw [hn'.out]; omega)] at hz
      have hf := gm_fin (D := fun _ => False) (x := w.heap.size) (y := w.heap.size) (w := w) (w9 := wr) (w' := ((wr.setCell ⟨w.heap.size, 0, none⟩ (.slice A0 n0 c0)).setCell ⟨w.heap.size, 1, none⟩ (.slice B0 p0 d0)).setCell ⟨w.heap.size, 2, none⟩ (.slice E0 q0 f0)) (by (repeat (first | (with_reducible exact Onl.refl _ _ _) | (with_reducible exact Onl.drewL _ _ _) | (with_reducible refine Onl.set ?_ (by simp) _) | with_reducible refine Onl.drew ?_))) hbr (Nat.le_refl _) (Nat.le_refl _) hz (fun b hb => ⟨by omega, by omega, .inr ⟨by omega, hb.2.2⟩⟩)
      exact ⟨A0, n0, c0, B0, p0, d0, E0, q0, f0, rfl, hf.1, hf.2⟩
end Go.Proofs.YtajmfonepnkofaaDoor
namespace Go.Proofs.YtajmfonepnkofaaDoor
open Go Go.RowKit
set_option linter.unusedVariables false
set_option linter.unusedSimpArgs false

section
variable {P : Program}
theorem run_appG {α : Type} {enc : α → List Value} {sz0 : Nat} (hl : ∀ x, (enc x).length = sz0) (hsz : 0 < sz0) (h1c : ∀ x, ∀ u ∈ enc x, u.oneCell' = true) (t ty e : TypeId) (i : TypeInfo) (z : Value) (bytes : Nat) (ht : P.underlying t = some (.slice e)) (hi : P.info? e = some i) (hz : i.zero = some z)
    (hsize : i.size = sz0) (hby : i.bytes = bytes) (hzs : z.cells.size = sz0) {w : World} {lo : Nat} {v : Value} {xs : List α} (hown : Own enc sz0 e w lo v xs)
    (a : Addr) (ys : List α) (c : Nat) (hnews : ∀ j u, (ys.flatMap enc)[j]? = some u → w.cell? (a.add j) = some u)
    (h63 : xs.length + ys.length ≤ maxLen) (hbytes : (xs.length + ys.length) * bytes ≤ 140737488355328) (hbase : lo ≤ w.heap.size) :
    ∃ v' w', (Builtin.append_ #[t, t] ty #[v, .slice (some a) ys.length c]).run P w = .ok v' w' ∧ Own enc sz0 e w' lo v' (xs ++ ys) ∧ w.grownBy w' v.ownBlock ∧ (v'.ownBlock = v.ownBlock ∨ v'.ownBlock = some w.heap.size) := by
  subst hsize
  subst hby
  have hsmall : xs.length + ys.length ≤ 9223372036854775807 := by simp only [maxLen] at h63; omega
  have hxl := flatMap_len hl xs
  have hyl := flatMap_len hl ys
  have h1 : ∀ u ∈ ys.flatMap enc, u.oneCell' = true := fun u hu => by
    obtain ⟨x, _, hx⟩ := List.mem_flatMap.1 hu
    exact h1c x u hx
  have hlen : (xs.flatMap enc ++ ys.flatMap enc).length = (xs.length + ys.length) * i.size := by rw [List.length_append, hxl, hyl, Nat.add_mul]
  have grown : ∀ (old : Nat), old < xs.length + ys.length → ∀ (row : Option Nat),
      Own enc i.size e (w.drew.alloc (.cells ((xs.flatMap enc).toArray ++ (ys.flatMap enc).toArray ++ Builtin.zeroCells z.cells (grownCap w (xs.length + ys.length) old e - (xs.length + ys.length))) e)) lo
        (.slice (some ⟨w.heap.size, 0, none⟩) (xs.length + ys.length) (grownCap w (xs.length + ys.length) old e)) (xs ++ ys) ∧
      w.grownBy (w.drew.alloc (.cells ((xs.flatMap enc).toArray ++ (ys.flatMap enc).toArray ++ Builtin.zeroCells z.cells (grownCap w (xs.length + ys.length) old e - (xs.length + ys.length))) e)) row := by
    intro old ho row
    have hge := grownCap_ge w (xs.length + ys.length) old e
    have hcm : grownCap w (xs.length + ys.length) old e ≤ maxLen := grownCap_le_maxLen w (xs.length + ys.length) old e h63
    refine ⟨.inr ⟨w.heap.size, grownCap w (xs.length + ys.length) old e, _, by rw [List.length_append], hbase, heap_alloc_new w.drew _, by rw [List.length_append]; exact hge, hcm, ?_, ?_⟩, ⟨rfl, rfl, rfl, by simp, fun k hk _ => Below.heap_alloc w.drew _ k hk⟩⟩
    · apply Nat.le_of_eq
      simp only [Array.size_append, List.size_toArray, size_zeroCells, hzs, hxl, hyl, ← Nat.add_mul]
      congr 1
      omega
    · rw [List.length_append, List.flatMap_append]
      simp only [Array.toList_append, List.append_assoc]
      rw [← List.append_assoc, ← hlen]
      exact List.take_left
  rcases hown with ⟨rfl, h0⟩ | ⟨g, cap, cur, rfl, hbg, hg, hnc, hcm, hcs, htake⟩
  · have hx : xs = [] := List.eq_nil_of_length_eq_zero h0
    subst hx
    by_cases hm : ys.length = 0
    · have hn : ys = [] := List.eq_nil_of_length_eq_zero hm
      subst hn
      refine ⟨.slice none 0 0, w, ?_, by simpa using Own.nil_ enc i.size e w lo, ⟨rfl, rfl, rfl, Nat.le_refl _, fun _ _ _ => rfl⟩, .inl rfl⟩
      simp [Builtin.append_, run_underlying ht, sizeOf, typeInfo, hi, Builtin.lenOf, Builtin.firstCells, loadCells, loadCellsFrom]
    · have hr := run_append_nil (P := P) w t ty e i z ht hi hz a ys.length c (ys.flatMap enc) hyl hnews (by omega) (by simp at hsmall; omega) (by have hb := hbytes; simp only [List.length_nil, Nat.zero_add] at hb; omega)
      have hgr := grown 0 (by simp; omega) (Value.ownBlock (.slice none 0 0))
      simp only [List.length_nil, Nat.zero_add, List.nil_append, List.flatMap_nil, Array.empty_append] at hgr ⊢
      exact ⟨_, _, hr, hgr.1, hgr.2, .inr rfl⟩
  · by_cases hroom : xs.length + ys.length ≤ cap
    · have hfit : xs.length * i.size + (ys.flatMap enc).length ≤ cur.size := by
        have := Nat.mul_le_mul_right i.size hroom
        rw [hyl, ← Nat.add_mul]; omega
      have hr := run_append_room (P := P) w t ty e i ht hi g xs.length cap cur hg a ys.length c (ys.flatMap enc) hyl hnews h1 hroom hfit
      refine ⟨_, _, hr, .inr ⟨g, cap, _, by rw [List.length_append], hbg, setRow_heap w g cur _ e _ hg, by rw [List.length_append]; exact hroom, hcm, ?_, ?_⟩, ⟨rfl, rfl, rfl, by simp, fun k _ hk => setRow_other w g k _ (fun e => hk (by simp [Value.ownBlock, e]))⟩, .inl rfl⟩
      · simp only [List.size_toArray, List.length_append, List.length_take, List.length_drop, Array.length_toList]
        omega
      · rw [List.length_append, List.flatMap_append, htake, ← hlen]
        exact List.take_left
    · have holds : ∀ j u, (xs.flatMap enc)[j]? = some u → w.cell? ((⟨g, 0, none⟩ : Addr).add j) = some u := by
        intro j u hu
        have h5 := hu
        rw [← htake, List.getElem?_take] at h5
        split at h5
        · have e2 : ((⟨g, 0, none⟩ : Addr).add j) = ⟨g, j, none⟩ := by
            unfold Addr.add
            split
            · rename_i h0; rw [h0]
            · simp
          rw [e2]
          simp only [World.cell?, hg]
          simpa using h5
        · cases h5
      have hr := run_append_grow (P := P) w t ty e i z ht hi hz ⟨g, 0, none⟩ xs.length cap (xs.flatMap enc) hxl holds a ys.length c (ys.flatMap enc) hyl hnews (by omega) (by omega) (growslice_fits (by omega) hbytes)
      have hgr := grown cap (by omega) (Value.ownBlock (.slice (some ⟨g, 0, none⟩) xs.length cap))
      exact ⟨_, _, hr, hgr.1, hgr.2, .inr rfl⟩

/-- 'append(s, x...)' onto a row of the call's own. -/
theorem wp_appG {α : Type} {enc : α → List Value} {sz : Nat} (hl : ∀ x, (enc x).length = sz) (hsz : 0 < sz) (h1c : ∀ x, ∀ u ∈ enc x, u.oneCell' = true)
    {o : Oper} {a : Act} {w : World} {K : Act → World → Prop} {Q : Exit → Act → World → Prop} (s x : Operand) (t : TypeId)
    (ho : o.op = .call { callee := .builtin .append, args := #[s, x], argTypes := #[t, t] })
    (e : TypeId) (z : Value) (bytes : Nat) (ht : P.underlying t = some (.slice e)) (hi : (P.info? e).map (fun i => (i.zero, i.size, i.bytes)) = some (some z, sz, bytes)) (hzs : z.cells.size = sz)
    (lo : Nat) (v : Value) (xs : List α) (hs : a.eval s = v) (hown : Own enc sz e w lo v xs)
    (lo' hi' : Nat) (A : Option Addr) (ys : List α) (m c : Nat) (hx : a.eval x = .slice A m c) (hm : m = ys.length) (hsl : Sl enc sz w lo' hi' A ys)
    (hbound : (xs.length + ys.length) * bytes ≤ 140737488355328 ∧ xs.length + ys.length ≤ maxLen) (hlo : lo ≤ w.heap.size)
    (h : ∀ v' w', Own enc sz e w' lo v' (xs ++ ys) → w.grownBy w' v.ownBlock → Below lo w w' → (v'.ownBlock = v.ownBlock ∨ v'.ownBlock = some w.heap.size) → K (a.put o.dst v') w') : o.wp P a w K Q := by
  subst hm
  obtain ⟨i, hi, hz, hsize, hby⟩ := info_parts hi
  have hB : ∀ {w'}, w.grownBy w' v.ownBlock → Below lo w w' := fun hg => (Below.refl lo w).grown hg hlo fun k hk => (hown.lt k hk).1
  by_cases hy : ys = []
  · subst hy
    have hrun : (Builtin.append_ #[t, t] o.type #[v, .slice A 0 c]).run P w = .ok v w := by
      rcases hown with ⟨rfl, h3⟩ | ⟨g, cap, cur, rfl, _, hh, hnc, _⟩
      · cases A <;> simp [Builtin.append_, run_underlying ht, sizeOf, typeInfo, hi, Builtin.lenOf, Builtin.firstCells, loadCells, loadCellsFrom]
      · cases A <;> simp [Builtin.append_, run_underlying ht, sizeOf, typeInfo, hi, Builtin.lenOf, Builtin.firstCells, loadCells, loadCellsFrom, hnc, storeCells]
    unfold Oper.wp execOp
    simp only [ho, resolve, invoke, builtin, Sem.run_bind, Sem.run_pure, Result.andThen_ok, List.map_toArray, List.map_cons, List.map_nil, hs, hx, List.length_nil, hrun]
    exact h v w (by simpa using hown) (World.grownBy.refl w _) (Below.refl _ _) (.inl rfl)
  · obtain ⟨b, off, rfl, _, _, hc⟩ := hsl hy
    have hnews : ∀ j u, (ys.flatMap enc)[j]? = some u → w.cell? ((⟨b, off, none⟩ : Addr).add j) = some u := by
      intro j u hu
      have hj : j < ys.length * sz := by rw [← flatMap_len hl ys]; exact (List.getElem?_eq_some_iff.1 hu).1
      have hk : j / sz < ys.length := Nat.div_lt_of_lt_mul (by rw [Nat.mul_comm]; exact hj)
      have hr : j % sz < sz := Nat.mod_lt _ hsz
      have hdm : j / sz * sz + j % sz = j := by rw [Nat.mul_comm]; exact Nat.div_add_mod j sz
      have hu' : (enc ys[j / sz])[j % sz]? = some ((enc ys[j / sz])[j % sz]'(by rw [hl]; exact hr)) := List.getElem?_eq_getElem _
      have h5 := flatMap_get hl ys (j / sz) ys[j / sz] (List.getElem?_eq_getElem hk) (j % sz) _ hu'
      rw [hdm, hu] at h5
      injection h5 with h5
      have h6 := hc (j / sz) ys[j / sz] (List.getElem?_eq_getElem hk) (j % sz) _ hu'
      rw [Nat.add_assoc, hdm, ← h5] at h6
      simpa [Addr.add] using (by by_cases hj0 : j = 0 <;> simp [hj0] at h6 ⊢ <;> exact h6)
    obtain ⟨v', w', hrun, h2, hg, hloc⟩ := run_appG hl hsz h1c t o.type e i z bytes ht hi hz hsize hby hzs hown ⟨b, off, none⟩ ys c hnews hbound.2 hbound.1 hlo
    unfold Oper.wp execOp
    simp only [ho, resolve, invoke, builtin, Sem.run_bind, Sem.run_pure, Result.andThen_ok, List.map_toArray, List.map_cons, List.map_nil, hs, hx, hrun]
    exact h v' w' h2 hg (hB hg) hloc


theorem wpList_appG {α : Type} {enc : α → List Value} {sz : Nat} (hl : ∀ x, (enc x).length = sz) (hsz : 0 < sz) (h1c : ∀ x, ∀ u ∈ enc x, u.oneCell' = true)
    {ops : Array Oper} {rest : List Oper} {o : Oper} {a : Act} {w : World} {Q : Exit → Act → World → Prop} (hgd : o.guard = none) (s x : Operand) (t : TypeId)
    (ho : o.op = .call { callee := .builtin .append, args := #[s, x], argTypes := #[t, t] })
    (e : TypeId) (z : Value) (bytes : Nat) (ht : P.underlying t = some (.slice e)) (hi : (P.info? e).map (fun i => (i.zero, i.size, i.bytes)) = some (some z, sz, bytes)) (hzs : z.cells.size = sz)
    (lo : Nat) (v : Value) (xs : List α) (hs : a.eval s = v) (hown : Own enc sz e w lo v xs)
    (lo' hi' : Nat) (A : Option Addr) (ys : List α) (m c : Nat) (hx : a.eval x = .slice A m c) (hm : m = ys.length) (hsl : Sl enc sz w lo' hi' A ys)
    (hbound : (xs.length + ys.length) * bytes ≤ 140737488355328 ∧ xs.length + ys.length ≤ maxLen) (hlo : lo ≤ w.heap.size)
    (h : ∀ v' w', Own enc sz e w' lo v' (xs ++ ys) → w.grownBy w' v.ownBlock → Below lo w w' → (v'.ownBlock = v.ownBlock ∨ v'.ownBlock = some w.heap.size) → wpList P ops Q rest (a.put o.dst v') w') : wpList P ops Q (o :: rest) a w :=
  wpList_plain hgd fun _ hK => wp_appG hl hsz h1c s x t ho e z bytes ht hi hzs lo v xs hs hown lo' hi' A ys m c hx hm hsl hbound hlo fun v' w' h2 h3 h4 h5 => hK _ _ (h v' w' h2 h3 h4 h5)
end

end Go.Proofs.YtajmfonepnkofaaDoor
