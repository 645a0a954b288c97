/-
  Games in the reference: 'l2Fold'. (Printed by gen_hm.py.)
  Conditions: none.
-/
import Derived.Test.YtajmfonepnkofaaDoorHL
import Derived.Test.YtajmfonepnkofaaDoorHQ
import Derived.Test.YtajmfonepnkofaaDoorRegI
namespace Go.Proofs.YtajmfonepnkofaaDoor
open Go.RowKit Rg
set_option linter.unusedVariables false
set_option linter.unusedSimpArgs false

theorem foldG_take {g : GameT} {rs : List AskT} {k : Nat} (hk : k < rs.length) : foldG g (rs.take (k + 1)) = (doG (foldG g (rs.take k)) rs[k]).1 := by
  rw [List.take_succ_eq_append_getElem hk, foldG_snoc]
theorem foldG_ok {rs : List AskT} (h : ∀ r ∈ rs, okNA r) (k : Nat) : okG (foldG newG (rs.take k)) := okG.folding newG_ok (fun r hr => h r (List.mem_of_mem_take hr))
theorem Bx3.sets {w : World} {b : Nat} {v0 v1 v2 : Value} {t : TypeId} (h : Bx3 w b v0 v1 v2 t) (u0 u1 u2 : Value) : Bx3 (((w.setCell ⟨b, 0, none⟩ u0).setCell ⟨b, 1, none⟩ u1).setCell ⟨b, 2, none⟩ u2) b u0 u1 u2 t := ((h.set0 u0).set1 u1).set2 u2
/-- The state of a fold: where the game stands. -/
def FoldS (w wr : World) (b3 : Nat) (g : GameT) : Prop := ∃ (A : Option Addr) (n c : Nat) (B : Option Addr) (p d : Nat) (E : Option Addr) (q f : Nat),
  Bx3 wr b3 (.slice A n c) (.slice B p d) (.slice E q f) 35 ∧ GmD wr (fun b => w.heap.size + 1 ≤ b ∧ b ≠ b3 ∧ b < wr.heap.size) A n c B p d E q f g ∧ Bx3 wr w.heap.size (.slice none 0 0) (.slice none 0 0) (.slice none 0 0) 35 ∧ Below w.heap.size w wr
theorem FoldS.mk {w w6 X : World} {b3 t : Nat} {v0 v1 v2 : Value} {D6 : Nat → Prop} {A : Option Addr} {n c : Nat} {B : Option Addr} {p d : Nat} {E : Option Addr} {q f : Nat} {g : GameT} (hx : Bx3 w6 b3 v0 v1 v2 35) (hr : Bx3 w6 w.heap.size (.slice none 0 0) (.slice none 0 0) (.slice none 0 0) 35) (hg : GmD w6 D6 A n c B p d E q f g)
    (hD : ∀ b, D6 b → w.heap.size + 1 ≤ b ∧ b ≠ b3 ∧ b < w6.heap.size ∧ b ≠ t) (h3 : w.heap.size + 1 ≤ b3) (h3t : b3 ≠ t) (ht : w.heap.size ≠ t) (hX : ∀ b, b < w6.heap.size → b ≠ t → X.heap[b]? = w6.heap[b]?) (hXs : w6.heap.size ≤ X.heap.size) (hXb : Below w.heap.size w X) :
    FoldS w (((X.setCell ⟨b3, 0, none⟩ (.slice A n c)).setCell ⟨b3, 1, none⟩ (.slice B p d)).setCell ⟨b3, 2, none⟩ (.slice E q f)) b3 g := by
  have hO : Onl b3 b3 X (((X.setCell ⟨b3, 0, none⟩ (.slice A n c)).setCell ⟨b3, 1, none⟩ (.slice B p d)).setCell ⟨b3, 2, none⟩ (.slice E q f)) := by (repeat (first | (with_reducible exact Onl.refl _ _ _) | (with_reducible exact Onl.drewL _ _ _) | (with_reducible refine Onl.set ?_ (by simp) _) | with_reducible refine Onl.drew ?_))
  have hxX : Bx3 X b3 v0 v1 v2 35 := (hX b3 hx.lt h3t).trans hx
  refine ⟨A, n, c, B, p, d, E, q, f, hxX.sets _ _ _, ((hg.keep (fun b hb => (hX b (hD b hb).2.2.1 (hD b hb).2.2.2))).keep (fun b hb => hO.blk b (hD b hb).2.1 (hD b hb).2.1)).mono (fun b hb => ⟨(hD b hb).1, (hD b hb).2.1, by rw [hO.size]; have := (hD b hb).2.2.1; omega⟩), ?_, hO.bel _ _ (by omega) (by omega) hXb⟩
  exact (hO.blk _ (by omega) (by omega)).trans ((hX _ hr.lt ht).trans hr)
theorem FoldS.drew {w wr : World} {b3 : Nat} {g : GameT} (h : FoldS w wr b3 g) : FoldS w wr.drew b3 g := by
  obtain ⟨A, n, c, B, p, d, E, q, f, h1, h2, h3, h4⟩ := h
  exact ⟨A, n, c, B, p, d, E, q, f, h1, h2.keep (fun _ _ => rfl), h3, h4.drew⟩
theorem FoldS.alloc {w wr : World} {b3 : Nat} {g : GameT} (h : FoldS w wr b3 g) (o : Obj) : FoldS w (wr.alloc o) b3 g := by
  obtain ⟨A, n, c, B, p, d, E, q, f, h1, h2, h3, h4⟩ := h
  have hA := (Below.refl wr.heap.size wr).alloc (Nat.le_refl _) o
  exact ⟨A, n, c, B, p, d, E, q, f, h1.below hA h1.lt, (h2.below hA (fun b hb => hb.2.2)).mono (fun b hb => ⟨hb.1, hb.2.1, by have := hb.2.2; simp only [World.size_alloc]; omega⟩), h3.below hA h3.lt, h4.trans (hA.mono h4.size)⟩
theorem FoldS.bel {w wr : World} {b3 : Nat} {g : GameT} (h : FoldS w wr b3 g) : Below w.heap.size w wr := by
  obtain ⟨A, n, c, B, p, d, E, q, f, h1, h2, h3, h4⟩ := h
  exact h4

set_option maxRecDepth 100000 in
set_option maxHeartbeats 2000000 in
theorem l2Fold_c (A : Option Addr) (n c lo hi : Nat) (rs : List ReqT) (w : World) (hn : n = rs.length) (hb : n ≤ 1048576) (hs : Sl encReq 5 w lo hi A rs) (hhi : hi ≤ w.heap.size) (hokr : ∀ r ∈ rs, okNA r) :
    Calls Tryd.prog 82 #[.slice A n c] w fun e w' => GmPost w (fun _ => False) (foldG newG rs) e w' := by
  have hn' := hide hn
  have hok := hide hokr
  clear hn hokr
  have hA0 := (Below.refl w.heap.size w).alloc (Nat.le_refl _) (.cells #[.slice none 0 0, .slice none 0 0, .slice none 0 0] 35)
  have hr0 := Bx3.made w (.slice none 0 0) (.slice none 0 0) (.slice none 0 0) 35
  go_enter Tryd.func82, Tryd.ntmps82
  go_wp2_with fail
  refine (l2New_c _).mono ?_
  rintro e w1 ⟨A1, n1, c1, B1, p1, d1, E1, q1, f1, rfl, hg1, hb1⟩
  have hr1 := hr0.below hb1 hr0.lt
  have hB1 := hA0.trans (hb1.mono (by simp))
  have hz1 : w.heap.size + 1 ≤ w1.heap.size := by have := hb1.size; simp only [World.size_alloc] at this; exact this
  have hA1 := (Below.refl w1.heap.size w1).alloc (Nat.le_refl _) (.cells #[.slice A1 n1 c1, .slice B1 p1 d1, .slice E1 q1 f1] 35)
  have hF : FoldS w (w1.alloc (.cells #[.slice A1 n1 c1, .slice B1 p1 d1, .slice E1 q1 f1] 35)) w1.heap.size (foldG newG (rs.take 0)) :=
    ⟨A1, n1, c1, B1, p1, d1, E1, q1, f1, Bx3.made w1 _ _ _ 35, (hg1.below hA1 (fun b hb => by rcases hb with hb | hb; exact hb.elim; exact hb.2)).mono (fun b hb => by
      rcases hb with hb | hb
      · exact hb.elim
      · simp only [World.size_alloc] at hb ⊢
        exact ⟨by omega, by omega, by omega⟩), hr1.below hA1 hr1.lt, hB1.trans (hA1.mono (by omega))⟩
  clear hg1 hr1 hB1 hr0 hb1 hA0 hA1
  have hF' := hide hF
  clear hF
  go_wp2
  go_loopw [4] (fun i wr => ∃ k : Nat, k ≤ n ∧ i = .int .i64 (k : Int) ∧ Hid (FoldS w wr w1.heap.size (foldG newG (rs.take k))) ∧ Below w.heap.size w wr) (fun i _ => n - (intOf i).toNat)
  case atStart => exact ⟨0, Nat.zero_le _, rfl, hF', by obtain ⟨_, _, _, _, _, _, _, _, _, _, _, _, h⟩ := hF'.out; exact h⟩
  case round =>
    obtain ⟨k, hk, rfl, hF, hbr⟩ := hrel
    obtain ⟨A0, n0, c0, B0, p0, d0, E0, q0, f0, hbx0, hg0, hr0, -⟩ := hF.out
    have hg0 := hide hg0
    obtain ⟨xx0, xx1, xx2, xf0, xf1, xf2⟩ := hbx0.cells
    obtain ⟨yy0, yy1, yy2, yg0, yg1, yg2⟩ := hr0.cells
    have hlx3 := hbx0.lt
    have hlr3 := hr0.lt
    clear hF
    by_cases hlt : k < n
    · have hlx : k < rs.length := by have := hn'.out; omega
      obtain ⟨b, off, rfl, hlo1, hbh⟩ := hs.addr hlx
      obtain ⟨a0, a1, a2, a3, a4⟩ := (hs.below hbr hhi).getReq hlx
      have hokg := hide (foldG_ok hok.out k)
      have hbw : b < wr.heap.size := by have := hbr.size; omega
      go_wp2
      refine wp_region_O (SinceB (wr.heap.size) _) [] [] [15, 18, 19] (Ord.seg [0, 1, 2, 3, 4] (Ord.both 5 9 (Ord.seg [6, 7, 8, 9, 10, 11] Ord.done) (Ord.seg [5, 6, 7, 8, 10, 11] Ord.done))) (by kernel_rfl) (by kernel_rfl) (by kernel_rfl) (SinceB.drew _ _) ?_
      go_wp2_with (first
        | (go_at_call 23; refine (l2Do_c A0 n0 c0 B0 p0 d0 E0 q0 f0 (fun b => w.heap.size + 1 ≤ b ∧ b ≠ w1.heap.size ∧ b < wr.heap.size) (foldG newG (rs.take k)) rs[k] _ ?_ ?_ hokg.out.weak (hok.out _ (List.getElem_mem hlx))).mono ?_; (focus (refine hg0.out.below (K := wr.heap.size) ?_ (fun b hb => hb.2.2); (focus (repeat (first | (with_reducible exact Below.refl _ _) | (with_reducible refine Below.drew ?_) | (with_reducible refine Below.allocR ?_ _)))))); (focus (intro b hb; have h9 := hb.2.2; first | exact h9 | (simp only [World.size_alloc, World.size_drew]; omega))); rintro e w6 ⟨A6, n6, c6, B6, p6, d6, E6, q6, f6, rfl, hg6, hb6⟩; have hb06 : Below wr.heap.size wr w6 := (Below.appR (by (focus (repeat (first | (with_reducible exact Below.refl _ _) | (with_reducible refine Below.drew ?_) | (with_reducible refine Below.allocR ?_ _))))) hb6); have hSB6 : SinceB wr.heap.size wr w6 := (SinceB.refl _ _).below hb06 (Nat.le_refl _); have hx6 := hbx0.below hb06 hbx0.lt; have hr6 := hr0.below hb06 hr0.lt; have hlx6 := hx6.lt; have hlr6 := hr6.lt; (try (have ht6 : Bx3 w6 wr.heap.size (.slice none 0 0) (.slice none 0 0) (.slice none 0 0) 35 := Bx3.below (Bx3.drew (Bx3.made wr _ _ _ 35)) hb6 (by simp only [World.size_drew, World.size_alloc]; omega); obtain ⟨tt0, tt1, tt2, tf0, tf1, tf2⟩ := ht6.cells; have hlt6 := ht6.lt)); have hz6 := hb06.size; clear xx0 xx1 xx2 xf0 xf1 xf2 yy0 yy1 yy2 yg0 yg1 yg2; obtain ⟨xx0, xx1, xx2, xf0, xf1, xf2⟩ := hx6.cells)
        | ((with_reducible refine wpO_seg ?_); simp only [pickL, List.toList_toArray, List.getElem?_cons_succ, List.getElem?_cons_zero]) | ((with_reducible refine wpO_both ?_ ?_) <;> simp only [pickL, List.toList_toArray, List.getElem?_cons_succ, List.getElem?_cons_zero]) | ((with_reducible refine wpO_three ?_ ?_ ?_) <;> simp only [pickL, List.toList_toArray, List.getElem?_cons_succ, List.getElem?_cons_zero]) | ((with_reducible refine wpO_done ?_); try dsimp only) | (with_reducible refine SinceB.and_ ?_ ?_; (focus (repeat (first | (with_reducible exact SinceB.refl _ _) | (with_reducible assumption) | (with_reducible refine SinceB.drewR ?_) | ((with_reducible refine SinceB.alloc ?_ ?_ _); rotate_left; (focus (first | (with_reducible assumption) | (simp; done) | (simp; omega) | omega))) | ((with_reducible refine SinceB.set ?_ ?_ _); rotate_left; (focus (first | omega | (simp; done) | (simp; omega))))))); intro hS) | ((with_reducible refine wpT_noL ?_ ?_); (focus (first | exact wanted_no _ _ _ rfl rfl rfl | exact wanted_un _ _ _ rfl rfl rfl)); simp only [setO, List.set_cons_succ, List.set_cons_zero]) | ((with_reducible refine wpT_q0 ?_ ?_ ?_ ?_); (focus rfl); (focus rfl); (focus rfl); intro K hK) | ((with_reducible refine wpT_i ?_ ?_); (focus (refine ⟨_, _, _, _, _, _, _, _, rfl, rfl, rfl, rfl, rfl, ?_⟩; omega)); intro K hK) | ((with_reducible refine wpT_ncw ?_ ?_ ?_); (focus (first | exact .inl rfl | exact .inr (wanted_yes _ _ _ rfl rfl rfl))); (focus exact ⟨_, _, rfl, rfl, rfl⟩); intro K hK) | ((with_reducible apply wpT_lB); (focus rfl); (focus rfl); (focus rfl); (focus rfl); (focus (first | exact SinceB.drew _ _ | (with_reducible assumption))); (focus (simp <;> omega)); (focus go_simp); intro K hK) | ((with_reducible apply wpT_lwB); (focus exact wanted_yes _ _ _ rfl rfl rfl); (focus rfl); (focus rfl); (focus rfl); (focus (first | exact SinceB.drew _ _ | (with_reducible assumption))); (focus (simp <;> omega)); (focus go_simp); intro K hK) | ((with_reducible refine wpT_xs0 ?_ ?_ ?_); (focus rfl); (focus rfl); intro K hK) | ((with_reducible refine wpT_q1 ?_ ?_ ?_ ?_); (focus exact wanted_yes _ _ _ rfl rfl rfl); (focus rfl); (focus rfl); intro K hK) | ((with_reducible refine wpT_xs1 ?_ ?_ ?_); (focus exact wanted_yes _ _ _ rfl rfl rfl); (focus rfl); intro K hK) | ((with_reducible refine wpT_nil ?_); try dsimp only)
        | fail)
      · go_roundw
        case rel =>
          have h5 : FoldS w (((w6.setCell ⟨w1.heap.size, 0, none⟩ (.slice A6 n6 c6)).setCell ⟨w1.heap.size, 1, none⟩ (.slice B6 p6 d6)).setCell ⟨w1.heap.size, 2, none⟩ (.slice E6 q6 f6)) w1.heap.size (foldG newG (rs.take (k + 1))) := by
            rw [foldG_take hlx]
            have h8 := hbr.size
            refine FoldS.mk (t := w6.heap.size) hx6 hr6 hg6 (fun b hb => ?_) hz1 (by omega) (by omega) (fun b h h2 => rfl) (Nat.le_refl _) (hbr.trans (hb06.mono h8))
            have h9 := hb6.size
            try simp only [World.size_alloc, World.size_drew] at h9
            rcases hb with hb | hb
            · exact ⟨hb.1, hb.2.1, by omega, by omega⟩
            · try simp only [World.size_alloc, World.size_drew] at hb
              exact ⟨by omega, by omega, by omega, by omega⟩
          first
            | exact ⟨k + 1, by omega, by go_num, hide (h5.alloc _), (h5.alloc _).bel⟩
            | exact ⟨k + 1, by omega, by go_num, hide (h5.alloc _).drew, (h5.alloc _).drew.bel⟩
        case measure => simp [intOf]; omega
      · go_roundw
        case rel =>
          have h5 : FoldS w (((((((w6.setCell ⟨wr.heap.size, 0, none⟩ (.slice A6 n6 c6)).setCell ⟨wr.heap.size, 1, none⟩ (.slice B6 p6 d6)).setCell ⟨wr.heap.size, 2, none⟩ (.slice E6 q6 f6))).setCell ⟨w1.heap.size, 0, none⟩ (.slice A6 n6 c6)).setCell ⟨w1.heap.size, 1, none⟩ (.slice B6 p6 d6)).setCell ⟨w1.heap.size, 2, none⟩ (.slice E6 q6 f6)) w1.heap.size (foldG newG (rs.take (k + 1))) := by
            rw [foldG_take hlx]
            have h8 := hbr.size
            have hO : Onl wr.heap.size wr.heap.size w6 (((w6.setCell ⟨wr.heap.size, 0, none⟩ (.slice A6 n6 c6)).setCell ⟨wr.heap.size, 1, none⟩ (.slice B6 p6 d6)).setCell ⟨wr.heap.size, 2, none⟩ (.slice E6 q6 f6)) := by (repeat (first | (with_reducible exact Onl.refl _ _ _) | (with_reducible exact Onl.drewL _ _ _) | (with_reducible refine Onl.set ?_ (by simp) _) | with_reducible refine Onl.drew ?_))
            refine FoldS.mk (t := wr.heap.size) hx6 hr6 hg6 (fun b hb => ?_) hz1 (by omega) (by omega) (fun b h h2 => hO.blk b h2 h2) (by rw [hO.size]; omega) (hO.bel _ _ (by omega) (by omega) (hbr.trans (hb06.mono h8)))
            have h9 := hb6.size
            try simp only [World.size_alloc, World.size_drew] at h9
            rcases hb with hb | hb
            · exact ⟨hb.1, hb.2.1, by omega, by omega⟩
            · try simp only [World.size_alloc, World.size_drew] at hb
              exact ⟨by omega, by omega, by omega, by omega⟩
          first
            | exact ⟨k + 1, by omega, by go_num, hide h5, h5.bel⟩
            | exact ⟨k + 1, by omega, by go_num, hide h5.drew, h5.drew.bel⟩
        case measure => simp [intOf]; omega
    · obtain rfl : k = n := by omega
      go_wp2
      refine bodyPost_ret (v := .agg #[.slice A0 n0 c0, .slice B0 p0 d0, .slice E0 q0 f0]) (by simp [results, Tryd.results82, go_sem, yy0, yy1, yy2, yg0, yg1, yg2]) rfl ?_
      have hz := hg0.out
      rw [List.take_of_length_le (by rw [hn'.out]; omega)] at hz
      have hf := gm_fin (D := fun _ => False) (x := w.heap.size) (y := w.heap.size) (w := w) (w9 := wr) (w' := ((wr.setCell ⟨w.heap.size, 0, none⟩ (.slice A0 n0 c0)).setCell ⟨w.heap.size, 1, none⟩ (.slice B0 p0 d0)).setCell ⟨w.heap.size, 2, none⟩ (.slice E0 q0 f0)) (by (repeat (first | (with_reducible exact Onl.refl _ _ _) | (with_reducible exact Onl.drewL _ _ _) | (with_reducible refine Onl.set ?_ (by simp) _) | with_reducible refine Onl.drew ?_))) hbr (Nat.le_refl _) (Nat.le_refl _) hz (fun b hb => ⟨by omega, by omega, .inr ⟨by omega, hb.2.2⟩⟩)
      exact ⟨A0, n0, c0, B0, p0, d0, E0, q0, f0, rfl, hf.1, hf.2⟩
end Go.Proofs.YtajmfonepnkofaaDoor
