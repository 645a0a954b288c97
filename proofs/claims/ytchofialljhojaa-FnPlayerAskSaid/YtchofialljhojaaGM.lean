/-
  What the players' laws draw: 'l20Player'.
-/
import Derived.Test.YtchofialljhojaaGL
import Derived.Test.YtchofialljhojaaRegA
namespace Go.Proofs.Ytchofialljhojaa
open Go.RowKit Rg
set_option linter.unusedVariables false
set_option linter.unusedSimpArgs false

theorem Rg.Stays.alloc {b : Nat} {o : Option Obj} {w : World} (h : Stays b o w) (hl : b < w.heap.size) (x : Obj) : Stays b o (w.alloc x) :=
  ⟨(((Below.refl w.heap.size w).alloc (Nat.le_refl _) x).block b hl).trans h.heap⟩
def Box6 (w : World) (b : Nat) (v0 v1 v2 v3 v4 v5 : Value) : Prop := w.cell? ⟨b, 0, none⟩ = some v0 ∧ w.cell? ⟨b, 1, none⟩ = some v1 ∧ w.cell? ⟨b, 2, none⟩ = some v2 ∧ w.cell? ⟨b, 3, none⟩ = some v3 ∧ w.cell? ⟨b, 4, none⟩ = some v4 ∧ w.cell? ⟨b, 5, none⟩ = some v5 ∧ w.frozen? ⟨b, 0, none⟩ = false ∧ w.frozen? ⟨b, 1, none⟩ = false ∧ w.frozen? ⟨b, 2, none⟩ = false ∧ w.frozen? ⟨b, 3, none⟩ = false ∧ w.frozen? ⟨b, 4, none⟩ = false ∧ w.frozen? ⟨b, 5, none⟩ = false
theorem Box6.keep {w w' : World} {b : Nat} {v0 v1 v2 v3 v4 v5 : Value} (h : Box6 w b v0 v1 v2 v3 v4 v5) (hb : w'.heap[b]? = w.heap[b]?) : Box6 w' b v0 v1 v2 v3 v4 v5 := by
  obtain ⟨h0, h1, h2, h3, h4, h5, f0, f1, f2, f3, f4, f5⟩ := h
  exact ⟨(World.cell?_of_block hb).trans h0, (World.cell?_of_block hb).trans h1, (World.cell?_of_block hb).trans h2, (World.cell?_of_block hb).trans h3, (World.cell?_of_block hb).trans h4, (World.cell?_of_block hb).trans h5, (frozen_blk5 hb).trans f0, (frozen_blk5 hb).trans f1, (frozen_blk5 hb).trans f2, (frozen_blk5 hb).trans f3, (frozen_blk5 hb).trans f4, (frozen_blk5 hb).trans f5⟩
theorem Box6.made (w : World) (x0 x1 x2 x3 x4 : Int) (A : Option Addr) (n c : Nat) (e : TypeId) : Box6 (w.alloc (.cells #[.int .i64 x0, .int .i64 x1, .int .i64 x2, .int .i64 x3, .int .i64 x4, .slice A n c] e)) w.heap.size (.int .i64 x0) (.int .i64 x1) (.int .i64 x2) (.int .i64 x3) (.int .i64 x4) (.slice A n c) :=
  ⟨by simp, by simp, by simp, by simp, by simp, by simp, by simp only [World.frozen?, heap_alloc_new]; simp, by simp only [World.frozen?, heap_alloc_new]; simp, by simp only [World.frozen?, heap_alloc_new]; simp, by simp only [World.frozen?, heap_alloc_new]; simp, by simp only [World.frozen?, heap_alloc_new]; simp, by simp only [World.frozen?, heap_alloc_new]; simp⟩
theorem Box6.lt {w : World} {b : Nat} {v0 v1 v2 v3 v4 v5 : Value} (h : Box6 w b v0 v1 v2 v3 v4 v5) : b < w.heap.size := lt_of_cell h.1
theorem Box6.only {w w' : World} {b : Nat} {v0 v1 v2 v3 v4 v5 : Value} {g : Option Nat} (h : Box6 w b v0 v1 v2 v3 v4 v5) (ho : Only w.heap.size g w w') (hne : g ≠ some b) : Box6 w' b v0 v1 v2 v3 v4 v5 := h.keep (ho.block b h.lt hne)
theorem Box6.below {w w' : World} {b : Nat} {v0 v1 v2 v3 v4 v5 : Value} (h : Box6 w b v0 v1 v2 v3 v4 v5) (ho : Below w.heap.size w w') : Box6 w' b v0 v1 v2 v3 v4 v5 := h.keep (ho.block b h.lt)
theorem Box6.set {w : World} {b : Nat} {v0 v1 v2 v3 v4 v5 : Value} (x0 x1 x2 x3 x4 : Int) (A : Option Addr) (n c : Nat) (h : Box6 w b v0 v1 v2 v3 v4 v5) : Box6 ((((((w.setCell ⟨b, 0, none⟩ (.int .i64 x0)).setCell ⟨b, 1, none⟩ (.int .i64 x1)).setCell ⟨b, 2, none⟩ (.int .i64 x2)).setCell ⟨b, 3, none⟩ (.int .i64 x3)).setCell ⟨b, 4, none⟩ (.int .i64 x4)).setCell ⟨b, 5, none⟩ (.slice A n c)) b (.int .i64 x0) (.int .i64 x1) (.int .i64 x2) (.int .i64 x3) (.int .i64 x4) (.slice A n c) := by
  obtain ⟨h0, h1, h2, h3, h4, h5, f0, f1, f2, f3, f4, f5⟩ := h
  exact ⟨by go_simp, by go_simp, by go_simp, by go_simp, by go_simp, by go_simp, by go_simp, by go_simp, by go_simp, by go_simp, by go_simp, by go_simp⟩
theorem Box6.other {w : World} {b c : Nat} {v0 v1 v2 v3 v4 v5 : Value} (a0 a1 a2 a3 a4 a5 : Value) (h : Box6 w c v0 v1 v2 v3 v4 v5) (hne : c ≠ b) : Box6 ((((((w.setCell ⟨b, 0, none⟩ (a0)).setCell ⟨b, 1, none⟩ (a1)).setCell ⟨b, 2, none⟩ (a2)).setCell ⟨b, 3, none⟩ (a3)).setCell ⟨b, 4, none⟩ (a4)).setCell ⟨b, 5, none⟩ (a5)) c v0 v1 v2 v3 v4 v5 := h.keep (set6_keep _ _ _ _ _ _ hne)
theorem Rd.set6 {w : World} {g P b : Nat} (a0 a1 a2 a3 a4 a5 : Value) (h : Rd w g P) (hg : g < b) : Rd ((((((w.setCell ⟨b, 0, none⟩ (a0)).setCell ⟨b, 1, none⟩ (a1)).setCell ⟨b, 2, none⟩ (a2)).setCell ⟨b, 3, none⟩ (a3)).setCell ⟨b, 4, none⟩ (a4)).setCell ⟨b, 5, none⟩ (a5)) g P := h.below (set6_below _ _ _ _ _ _ (show g + 1 ≤ b from hg) (Below.refl (g + 1) w)) (by omega)
theorem Only.set6 {B : Nat} {g : Option Nat} {a w : World} {b : Nat} (a0 a1 a2 a3 a4 a5 : Value) (h : Only B g a w) (hb : B ≤ b) : Only B g a ((((((w.setCell ⟨b, 0, none⟩ (a0)).setCell ⟨b, 1, none⟩ (a1)).setCell ⟨b, 2, none⟩ (a2)).setCell ⟨b, 3, none⟩ (a3)).setCell ⟨b, 4, none⟩ (a4)).setCell ⟨b, 5, none⟩ (a5)) := h.trans (Only.of_below (set6_below _ _ _ _ _ _ hb (Below.refl B w)))
theorem Own.set6 {α : Type} {enc : α → List Value} {sz lo : Nat} {e : TypeId} {v : Value} {xs : List α} {w : World} {b : Nat} (a0 a1 a2 a3 a4 a5 : Value) (h : Own enc sz e w lo v xs) (hne : ∀ k, v.ownBlock = some k → k ≠ b) : Own enc sz e ((((((w.setCell ⟨b, 0, none⟩ (a0)).setCell ⟨b, 1, none⟩ (a1)).setCell ⟨b, 2, none⟩ (a2)).setCell ⟨b, 3, none⟩ (a3)).setCell ⟨b, 4, none⟩ (a4)).setCell ⟨b, 5, none⟩ (a5)) lo v xs := h.keep (fun k hk => set6_keep _ _ _ _ _ _ (hne k hk))

theorem set5_keep {w : World} {b k : Nat} (a0 a1 a2 a3 a4 : Value) (h : k ≠ b) : (((((w.setCell ⟨b, 0, none⟩ (a0)).setCell ⟨b, 1, none⟩ (a1)).setCell ⟨b, 2, none⟩ (a2)).setCell ⟨b, 3, none⟩ (a3)).setCell ⟨b, 4, none⟩ (a4)).heap[k]? = w.heap[k]? :=
  (Below.heap_setCell _ ⟨b, 4, none⟩ _ k h).trans ((Below.heap_setCell _ ⟨b, 3, none⟩ _ k h).trans ((Below.heap_setCell _ ⟨b, 2, none⟩ _ k h).trans ((Below.heap_setCell _ ⟨b, 1, none⟩ _ k h).trans (Below.heap_setCell _ ⟨b, 0, none⟩ _ k h))))
theorem set5_below {a w : World} {B b : Nat} (a0 a1 a2 a3 a4 : Value) (h : B ≤ b) (hb : Below B a w) : Below B a (((((w.setCell ⟨b, 0, none⟩ (a0)).setCell ⟨b, 1, none⟩ (a1)).setCell ⟨b, 2, none⟩ (a2)).setCell ⟨b, 3, none⟩ (a3)).setCell ⟨b, 4, none⟩ (a4)) :=
  ((((hb.setCell (by simpa using h) _).setCell (by simpa using h) _).setCell (by simpa using h) _).setCell (by simpa using h) _).setCell (by simpa using h) _
theorem hear_fin {r r7 : ReqV} {xs : List ReplyT} {t : ReplyT} {n n7 : Nat} (hr : 0 ≤ r.2.1 ∧ r.2.1 ≤ 100) (hn : n = xs.length) (hn7 : n7 = (hearL r xs t).1.2.length) (hr7 : r7 = (hearL r xs t).1.1) : (0 ≤ r7.2.1 ∧ r7.2.1 ≤ 100) ∧ n7 ≤ n + 1 := by
  subst hn7; subst hr7; subst hn
  unfold hearL hearF
  split
  · split
    · exact ⟨hr, by simp⟩
    · exact ⟨hr, by simp⟩
  · exact ⟨by simp, by simp⟩
/-- What a drawn player is. -/
def PlR (w : World) (lo b : Nat) (r : ReqV) (A : Option Addr) (n c : Nat) (xs : List ReplyT) : Prop :=
  (0 ≤ r.2.1 ∧ r.2.1 ≤ 100) ∧ n = xs.length ∧ Own encReply 4 37 w lo (.slice A n c) xs ∧ Box6 w b (.int .i64 r.1) (.int .i64 r.2.1) (.int .i64 r.2.2.1) (.int .i64 r.2.2.2.1) (.int .i64 r.2.2.2.2) (.slice A n c)
set_option maxRecDepth 100000 in
set_option maxHeartbeats 1000000 in
theorem l20Player_c (g P : Nat) (w : World) (hr : Rd w g P) (hP : P ≤ 1000) :
    Calls Try.prog 58 #[.pointer (some ⟨g, 0, none⟩)] w fun e w' => ∃ (r : ReqV) (A : Option Addr) (n c : Nat) (xs : List ReplyT), e = .returned (.agg #[.int .i64 r.1, .int .i64 r.2.1, .int .i64 r.2.2.1, .int .i64 r.2.2.2.1, .int .i64 r.2.2.2.2, .slice A n c]) ∧ n = xs.length ∧ n ≤ 10 ∧ (0 ≤ r.2.1 ∧ r.2.1 ≤ 100) ∧ Own encReply 4 37 w' w.heap.size (.slice A n c) xs ∧ Rd w' g (P + 300) ∧ Only w.heap.size (some g) w w' := by
  have hg := hr.lt
  have hgb : some g ≠ some w.heap.size := by intro h; injection h with h; omega
  have hb0 : Below w.heap.size w (w.alloc (.cells #[.int .i64 0, .int .i64 0, .int .i64 0, .int .i64 0, .int .i64 0, .slice none 0 0] 32)) := (Below.refl _ _).alloc (Nat.le_refl _) _
  have hx0 := Box6.made w 0 0 0 0 0 none 0 0 32
  have hr0 := hr.keep hb0
  have ho0 : Only w.heap.size (some g) w (w.alloc (.cells #[.int .i64 0, .int .i64 0, .int .i64 0, .int .i64 0, .int .i64 0, .slice none 0 0] 32)) := Only.of_below hb0
  go_enter Try.func58, Try.ntmps58
  go_wp2_with fail
  generalize w.alloc (.cells #[.int .i64 0, .int .i64 0, .int .i64 0, .int .i64 0, .int .i64 0, .slice none 0 0] 32) = w0 at *
  refine (l20Req_c g P w0 hr0 (by omega)).mono ?_
  rintro e w1 ⟨t, rfl, ht, hr1, h1⟩
  have hx1 := hx0.only h1 hgb
  have ho1 := ho0.trans (h1.mono hb0.size)
  have hA := (Below.refl w1.heap.size w1).alloc (Nat.le_refl _) (.cells #[.int .i64 t.1, .int .i64 t.2.1, .int .i64 t.2.2.1, .int .i64 t.2.2.2.1, .int .i64 t.2.2.2.2, .slice none 0 0] 32)
  have hy2 := Box6.made w1 t.1 t.2.1 t.2.2.1 t.2.2.2.1 t.2.2.2.2 none 0 0 32
  have hx2 := hx1.below hA
  have hr2 := hr1.keep hA
  have ho2 := ho1.trans ((Only.of_below hA).mono ho1.size)
  have hgy : some g ≠ some w1.heap.size := by intro h; injection h with h; have := hr1.lt; omega
  have hgw : g < w1.heap.size := hr1.lt
  have hww : w.heap.size ≤ w1.heap.size := ho1.size
  have hwn : w.heap.size ≠ w1.heap.size := by have := hx1.lt; omega
  clear hr0 hr1 hx0 hx1 ho0 ho1 hA hb0 h1 hr
  go_wp2_with fail
  generalize w1.alloc (.cells #[.int .i64 t.1, .int .i64 t.2.1, .int .i64 t.2.2.1, .int .i64 t.2.2.2.1, .int .i64 t.2.2.2.2, .slice none 0 0] 32) = w2 at *
  refine (pick_c g _ 6 w2 hr2 (by omega) (by omega)).mono ?_
  rintro e w3 ⟨N, rfl, hN, hr3, h3⟩
  have hN5 : N ≤ 5 := by have := hN.1 (by omega); omega
  have hx3 := hx2.only h3 hgb
  have hy3 := hy2.only h3 hgy
  have ho3 := ho2.trans (h3.mono ho2.size)
  clear hN h3 hr2 hx2 hy2 ho2
  go_wp2_with fail
  go_loopw [4, 5, 6] (fun mv _ _ wr => ∃ (m : Nat) (r : ReqV) (A : Option Addr) (n c : Nat) (xs : List ReplyT), mv = .int .i64 (m : Int) ∧ m ≤ 5 ∧ Hid (n + m ≤ 5) ∧ PlR wr (w1.heap.size + 1) w1.heap.size r A n c xs ∧ Box6 wr w.heap.size (.int .i64 0) (.int .i64 0) (.int .i64 0) (.int .i64 0) (.int .i64 0) (.slice none 0 0) ∧ Rd wr g (P + 20 + 1 + 25 * (5 - m)) ∧ Only w.heap.size (some g) w wr) (fun mv _ _ _ => (intOf mv).toNat)
  case atStart => exact ⟨N, t, none, 0, 0, [], rfl, hN5, hide (by omega), ⟨ht, rfl, Own.nil_ _ _ _ _ _, hy3⟩, hx3, hr3.mono (by omega), ho3⟩
  case round =>
    obtain ⟨m, r, A, n, c, xs, rfl, hm, hnm, ⟨hrb, hnx, hox, hy⟩, hx, hrr, hor⟩ := hrel
    have hnx' := hide hnx
    clear hnx
    have hn5 : n ≤ 5 := by have := hnm.out; omega
    have hcap := hox.cap
    have hylt := hy.lt
    by_cases hm0 : 0 < m
    · have d1 : decide (0 < (m : Int)) = true := by simpa using hm0
      have hst : Stays w1.heap.size wr.heap[w1.heap.size]? wr := ⟨rfl⟩
      have hy' := hy
      obtain ⟨y0, y1, y2, y3, y4, y5, yf0, yf1, yf2, yf3, yf4, yf5⟩ := hy'
      go_wp2
      refine wp_region_O (Stays _ _) [29, 32] [] [17, 21] (Ord.seg [0, 1, 2, 3, 4] (Ord.both 5 10 (Ord.seg [] (Ord.both 6 10 (Ord.seg [7, 8, 9, 10, 11, 12] Ord.done) (Ord.seg [6, 7, 8, 9, 11, 12] Ord.done))) (Ord.seg [5, 6, 7, 8, 9, 11, 12] Ord.done))) (by kernel_rfl) (by kernel_rfl) (by kernel_rfl) (Stays.drew hst) ?_
      have hneg : ∀ b, (Value.slice A n c).ownBlock = some b → some g ≠ some b := fun b hb e => by injection e with e; have := (hox.lt b hb).1; omega
      go_wp2_with (first
        | ((with_reducible refine wpO_seg ?_); simp only [pickL, List.toList_toArray, List.getElem?_cons_succ, List.getElem?_cons_zero]) | ((with_reducible refine wpO_both ?_ ?_) <;> simp only [pickL, List.toList_toArray, List.getElem?_cons_succ, List.getElem?_cons_zero]) | ((with_reducible refine wpO_done ?_); try dsimp only) | ((with_reducible refine Stays.and_ ?_ ?_; (focus (repeat (first | (with_reducible assumption) | ((with_reducible refine Stays.cell ?_ ?_); rotate_left; (focus (first | (with_reducible assumption) | (simp; done) | (simp; omega)))) | (with_reducible refine Stays.drew ?_) | ((with_reducible refine Stays.alloc ?_ ?_ _); rotate_left; (focus (first | (with_reducible assumption) | omega)))))); intro hS)) | ((with_reducible refine wpT_q0 ?_ ?_ ?_ ?_); (focus rfl); (focus rfl); (focus rfl); intro K hK) | ((with_reducible apply wpT_k); (focus rfl); (focus rfl); (focus rfl); (focus rfl); (focus (first | assumption | exact Stays.drew (by assumption))); (focus rfl); (focus go_simp); intro K hK) | ((with_reducible refine wpT_xs0 ?_ ?_ ?_); (focus rfl); (focus rfl); intro K hK) | ((with_reducible refine wpT_noL ?_ ?_); (focus (first | exact wanted_no _ _ _ rfl rfl rfl | exact wanted_un _ _ _ rfl rfl rfl)); simp only [setO, List.set_cons_succ, List.set_cons_zero]) | ((with_reducible refine wpT_q1 ?_ ?_ ?_ ?_); (focus exact wanted_yes _ _ _ rfl rfl rfl); (focus rfl); (focus rfl); intro K hK) | ((with_reducible refine wpT_xs1 ?_ ?_ ?_); (focus exact wanted_yes _ _ _ rfl rfl rfl); (focus rfl); intro K hK) | ((with_reducible refine wpT_nil ?_); try dsimp only)
        | fail)
      · have hD6 : Rd wr.drew g _ := hrr
        have hyD : Box6 wr.drew w1.heap.size _ _ _ _ _ _ := hy
        have hxD : Box6 wr.drew w.heap.size _ _ _ _ _ _ := hx
        have hoxD : Own encReply 4 37 wr.drew (w1.heap.size + 1) (.slice A n c) xs := hox
        have hoD : Only w.heap.size (some g) w wr.drew := hor.drew
        have hltD : w1.heap.size < (wr.drew).heap.size := hyD.lt
        refine (l20Reply_c g _ r.2.1 wr.drew hD6 (by omega) hrb.1 (by omega)).mono ?_
        rintro e w6 ⟨t6, rfl, hr6, h6⟩
        have hst6 : Stays w1.heap.size wr.heap[w1.heap.size]? w6 := ⟨(h6.block _ hltD hgy).trans hst.heap⟩
        have hy6 := hyD.only h6 hgy
        have hx6 := hxD.only h6 hgb
        have hox6 := hoxD.only h6 (Nat.le_refl _) hneg
        have ho6 := hoD.trans (h6.mono hoD.size)
        clear h6 hyD hxD hoxD hoD hD6
        have hl6w : w1.heap.size < w6.heap.size := hy6.lt
        go_wp2_with (first
          | ((with_reducible refine wpO_seg ?_); simp only [pickL, List.toList_toArray, List.getElem?_cons_succ, List.getElem?_cons_zero]) | ((with_reducible refine wpO_both ?_ ?_) <;> simp only [pickL, List.toList_toArray, List.getElem?_cons_succ, List.getElem?_cons_zero]) | ((with_reducible refine wpO_done ?_); try dsimp only) | ((with_reducible refine Stays.and_ ?_ ?_; (focus (repeat (first | (with_reducible assumption) | ((with_reducible refine Stays.cell ?_ ?_); rotate_left; (focus (first | (with_reducible assumption) | (simp; done) | (simp; omega)))) | (with_reducible refine Stays.drew ?_) | ((with_reducible refine Stays.alloc ?_ ?_ _); rotate_left; (focus (first | (with_reducible assumption) | omega)))))); intro hS)) | ((with_reducible refine wpT_q0 ?_ ?_ ?_ ?_); (focus rfl); (focus rfl); (focus rfl); intro K hK) | ((with_reducible apply wpT_k); (focus rfl); (focus rfl); (focus rfl); (focus rfl); (focus (first | assumption | exact Stays.drew (by assumption))); (focus rfl); (focus go_simp); intro K hK) | ((with_reducible refine wpT_xs0 ?_ ?_ ?_); (focus rfl); (focus rfl); intro K hK) | ((with_reducible refine wpT_noL ?_ ?_); (focus (first | exact wanted_no _ _ _ rfl rfl rfl | exact wanted_un _ _ _ rfl rfl rfl)); simp only [setO, List.set_cons_succ, List.set_cons_zero]) | ((with_reducible refine wpT_q1 ?_ ?_ ?_ ?_); (focus exact wanted_yes _ _ _ rfl rfl rfl); (focus rfl); (focus rfl); intro K hK) | ((with_reducible refine wpT_xs1 ?_ ?_ ?_); (focus exact wanted_yes _ _ _ rfl rfl rfl); (focus rfl); intro K hK) | ((with_reducible refine wpT_nil ?_); try dsimp only)
          | fail)
        · have hst6V := hst6
          refine (specPlayerHear_c r A n c _ _ xs t6 w6 hnx'.out (by omega) hcap.1 hcap.2 (hox6.slAt encReply_len).2.2 (Nat.le_refl _)).mono ?_
          rintro e w7 ⟨r7, A7, n7, c7, b7, rfl, ho7, hn7, hr7, hb7, h7⟩
          have hst7 : Stays w1.heap.size wr.heap[w1.heap.size]? w7 := ⟨(h7.block _ hy6.lt).trans hst6.heap⟩
          have hy7 := hy6.below h7
          have hx7 := hx6.below h7
          have ho77 := ho6.trans ((Only.of_below h7).mono ho6.size)
          have hrd7 := hr6.keep h7
          have hl7 : w1.heap.size < (w6).heap.size := hy6.lt
          have hlx7 : w.heap.size < (w6).heap.size := hx6.lt
          have hl77 : w1.heap.size < w7.heap.size := hy7.lt
          have hfin := hide (hear_fin hrb hnx'.out hn7 hr7)
          have hn7' := hide hn7
          have h7s := hide h7.size
          clear hn7 hr7 hb7
          have hy7' := hy7
          obtain ⟨y0, y1, y2, y3, y4, y5, yf0, yf1, yf2, yf3, yf4, yf5⟩ := hy7'
          go_wp2_with (first
            | ((with_reducible refine wpO_seg ?_); simp only [pickL, List.toList_toArray, List.getElem?_cons_succ, List.getElem?_cons_zero]) | ((with_reducible refine wpO_both ?_ ?_) <;> simp only [pickL, List.toList_toArray, List.getElem?_cons_succ, List.getElem?_cons_zero]) | ((with_reducible refine wpO_done ?_); try dsimp only) | ((with_reducible refine Stays.and_ ?_ ?_; (focus (repeat (first | (with_reducible assumption) | ((with_reducible refine Stays.cell ?_ ?_); rotate_left; (focus (first | (with_reducible assumption) | (simp; done) | (simp; omega)))) | (with_reducible refine Stays.drew ?_) | ((with_reducible refine Stays.alloc ?_ ?_ _); rotate_left; (focus (first | (with_reducible assumption) | omega)))))); intro hS)) | ((with_reducible refine wpT_q0 ?_ ?_ ?_ ?_); (focus rfl); (focus rfl); (focus rfl); intro K hK) | ((with_reducible apply wpT_k); (focus rfl); (focus rfl); (focus rfl); (focus rfl); (focus (first | assumption | exact Stays.drew (by assumption))); (focus rfl); (focus go_simp); intro K hK) | ((with_reducible refine wpT_xs0 ?_ ?_ ?_); (focus rfl); (focus rfl); intro K hK) | ((with_reducible refine wpT_noL ?_ ?_); (focus (first | exact wanted_no _ _ _ rfl rfl rfl | exact wanted_un _ _ _ rfl rfl rfl)); simp only [setO, List.set_cons_succ, List.set_cons_zero]) | ((with_reducible refine wpT_q1 ?_ ?_ ?_ ?_); (focus exact wanted_yes _ _ _ rfl rfl rfl); (focus rfl); (focus rfl); intro K hK) | ((with_reducible refine wpT_xs1 ?_ ?_ ?_); (focus exact wanted_yes _ _ _ rfl rfl rfl); (focus rfl); intro K hK) | ((with_reducible refine wpT_nil ?_); try dsimp only)
            | fail)
          go_roundw
          case rel =>
            exact ⟨m - 1, r7, A7, n7, c7, _, by go_num, by omega, hide (by have := hnm.out; have := hfin.out.2; omega), ⟨hfin.out.1, hn7'.out, ((ho7.mono (by have := hl7; omega)).set6 _ _ _ _ _ _ (fun k hk => by have := (ho7.lt k hk).1; omega)).alloc _, (hy7.set _ _ _ _ _ _ _ _).below ((Below.refl _ _).alloc (Nat.le_refl _) _)⟩, (hx7.other _ _ _ _ _ _ hwn).below ((Below.refl _ _).alloc (Nat.le_refl _) _), ((hrd7.set6 _ _ _ _ _ _ hgw).keep ((Below.refl _ _).alloc (Nat.le_refl _) _)).mono (by omega), (ho77.set6 _ _ _ _ _ _ hww).allocs _⟩
          case measure => simp [intOf]; omega
        · have hA6 := (Below.refl w6.heap.size w6).alloc (Nat.le_refl _) (.cells #[.int .i64 0, .int .i64 0, .int .i64 0, .int .i64 0, .int .i64 0, .slice none 0 0] 32)
          have hr6a := hr6.keep hA6
          have hy6a := hy6.below hA6
          have hx6a := hx6.below hA6
          have ho6a := ho6.trans ((Only.of_below hA6).mono ho6.size)
          have hox6a := hox6.alloc (.cells #[.int .i64 0, .int .i64 0, .int .i64 0, .int .i64 0, .int .i64 0, .slice none 0 0] 32)
          have hz6a := Box6.made w6 0 0 0 0 0 none 0 0 32
          have hst6a := hst6.alloc hy6.lt (.cells #[.int .i64 0, .int .i64 0, .int .i64 0, .int .i64 0, .int .i64 0, .slice none 0 0] 32)
          have hl6 : w1.heap.size < w6.heap.size := hy6.lt
          have hlx6 : w.heap.size < w6.heap.size := hx6.lt
          have hst6aV := hst6a
          refine (specPlayerHear_c r A n c _ _ xs t6 (w6.alloc (.cells #[.int .i64 0, .int .i64 0, .int .i64 0, .int .i64 0, .int .i64 0, .slice none 0 0] 32)) hnx'.out (by omega) hcap.1 hcap.2 (hox6a.slAt encReply_len).2.2 (Nat.le_refl _)).mono ?_
          rintro e w7 ⟨r7, A7, n7, c7, b7, rfl, ho7, hn7, hr7, hb7, h7⟩
          have hst7 : Stays w1.heap.size wr.heap[w1.heap.size]? w7 := ⟨(h7.block _ hy6a.lt).trans hst6a.heap⟩
          have hy7 := hy6a.below h7
          have hx7 := hx6a.below h7
          have ho77 := ho6a.trans ((Only.of_below h7).mono ho6a.size)
          have hrd7 := hr6a.keep h7
          have hl7 : w1.heap.size < ((w6.alloc (.cells #[.int .i64 0, .int .i64 0, .int .i64 0, .int .i64 0, .int .i64 0, .slice none 0 0] 32))).heap.size := hy6a.lt
          have hlx7 : w.heap.size < ((w6.alloc (.cells #[.int .i64 0, .int .i64 0, .int .i64 0, .int .i64 0, .int .i64 0, .slice none 0 0] 32))).heap.size := hx6a.lt
          have hz7 := hz6a.below h7
          have hz7' := hz7
          have hgz7 : g < w6.heap.size := by have := hr6.lt; omega
          have hz7l : w6.heap.size < ((w6.alloc (.cells #[.int .i64 0, .int .i64 0, .int .i64 0, .int .i64 0, .int .i64 0, .slice none 0 0] 32))).heap.size := hz6a.lt
          obtain ⟨z0, z1, z2, z3, z4, z5, zf0, zf1, zf2, zf3, zf4, zf5⟩ := hz7'
          have hl77 : w1.heap.size < w7.heap.size := hy7.lt
          have hfin := hide (hear_fin hrb hnx'.out hn7 hr7)
          have hn7' := hide hn7
          have h7s := hide h7.size
          clear hn7 hr7 hb7
          have hy7' := hy7
          obtain ⟨y0, y1, y2, y3, y4, y5, yf0, yf1, yf2, yf3, yf4, yf5⟩ := hy7'
          go_wp2_with (first
            | ((with_reducible refine wpO_seg ?_); simp only [pickL, List.toList_toArray, List.getElem?_cons_succ, List.getElem?_cons_zero]) | ((with_reducible refine wpO_both ?_ ?_) <;> simp only [pickL, List.toList_toArray, List.getElem?_cons_succ, List.getElem?_cons_zero]) | ((with_reducible refine wpO_done ?_); try dsimp only) | ((with_reducible refine Stays.and_ ?_ ?_; (focus (repeat (first | (with_reducible assumption) | ((with_reducible refine Stays.cell ?_ ?_); rotate_left; (focus (first | (with_reducible assumption) | (simp; done) | (simp; omega)))) | (with_reducible refine Stays.drew ?_) | ((with_reducible refine Stays.alloc ?_ ?_ _); rotate_left; (focus (first | (with_reducible assumption) | omega)))))); intro hS)) | ((with_reducible refine wpT_q0 ?_ ?_ ?_ ?_); (focus rfl); (focus rfl); (focus rfl); intro K hK) | ((with_reducible apply wpT_k); (focus rfl); (focus rfl); (focus rfl); (focus rfl); (focus (first | assumption | exact Stays.drew (by assumption))); (focus rfl); (focus go_simp); intro K hK) | ((with_reducible refine wpT_xs0 ?_ ?_ ?_); (focus rfl); (focus rfl); intro K hK) | ((with_reducible refine wpT_noL ?_ ?_); (focus (first | exact wanted_no _ _ _ rfl rfl rfl | exact wanted_un _ _ _ rfl rfl rfl)); simp only [setO, List.set_cons_succ, List.set_cons_zero]) | ((with_reducible refine wpT_q1 ?_ ?_ ?_ ?_); (focus exact wanted_yes _ _ _ rfl rfl rfl); (focus rfl); (focus rfl); intro K hK) | ((with_reducible refine wpT_xs1 ?_ ?_ ?_); (focus exact wanted_yes _ _ _ rfl rfl rfl); (focus rfl); intro K hK) | ((with_reducible refine wpT_nil ?_); try dsimp only)
            | fail)
          go_roundw
          case rel =>
            exact ⟨m - 1, r7, A7, n7, c7, _, by go_num, by omega, hide (by have := hnm.out; have := hfin.out.2; omega), ⟨hfin.out.1, hn7'.out, ((ho7.mono (by have := hl7; omega)).set6 _ _ _ _ _ _ (fun k hk => by have := (ho7.lt k hk).1; omega)).set6 _ _ _ _ _ _ (fun k hk => by have := (ho7.lt k hk).1; omega), (hy7.other _ _ _ _ _ _ (Nat.ne_of_lt hl6)).set _ _ _ _ _ _ _ _⟩, (hx7.other _ _ _ _ _ _ (Nat.ne_of_lt hlx6)).other _ _ _ _ _ _ hwn, ((hrd7.set6 _ _ _ _ _ _ hgz7).set6 _ _ _ _ _ _ hgw).mono (by omega), (ho77.set6 _ _ _ _ _ _ (Nat.le_of_lt hlx6)).set6 _ _ _ _ _ _ hww⟩
          case measure => simp [intOf]; omega
      · have hA4 := ((Below.refl wr.heap.size wr).alloc (Nat.le_refl _) (.cells #[.int .i64 0, .int .i64 0, .int .i64 0, .int .i64 0, .int .i64 0, .slice none 0 0] 32)).drew
        have hr4 := hrr.keep hA4
        have hy4 := hy.below hA4
        have hx4 := hx.below hA4
        have ho4 := hor.trans ((Only.of_below hA4).mono hor.size)
        have hox4 := hox.below hA4 (Nat.le_refl _)
        have hz4 : Box6 (wr.alloc (.cells #[.int .i64 0, .int .i64 0, .int .i64 0, .int .i64 0, .int .i64 0, .slice none 0 0] 32)).drew wr.heap.size (.int .i64 0) (.int .i64 0) (.int .i64 0) (.int .i64 0) (.int .i64 0) (.slice none 0 0) := Box6.made wr 0 0 0 0 0 none 0 0 32
        have hst4 : Stays w1.heap.size wr.heap[w1.heap.size]? (wr.alloc (.cells #[.int .i64 0, .int .i64 0, .int .i64 0, .int .i64 0, .int .i64 0, .slice none 0 0] 32)).drew := ⟨hA4.block _ hylt⟩
        have hgz : some g ≠ some wr.heap.size := by intro h; injection h with h; have := hrr.lt; omega
        have hl6 : w1.heap.size < wr.heap.size := hylt
        have hlx6 : w.heap.size < wr.heap.size := hx.lt
        have hD6 : Rd (wr.alloc (.cells #[.int .i64 0, .int .i64 0, .int .i64 0, .int .i64 0, .int .i64 0, .slice none 0 0] 32)).drew g _ := hr4
        have hyD : Box6 (wr.alloc (.cells #[.int .i64 0, .int .i64 0, .int .i64 0, .int .i64 0, .int .i64 0, .slice none 0 0] 32)).drew w1.heap.size _ _ _ _ _ _ := hy4
        have hxD : Box6 (wr.alloc (.cells #[.int .i64 0, .int .i64 0, .int .i64 0, .int .i64 0, .int .i64 0, .slice none 0 0] 32)).drew w.heap.size _ _ _ _ _ _ := hx4
        have hoxD : Own encReply 4 37 (wr.alloc (.cells #[.int .i64 0, .int .i64 0, .int .i64 0, .int .i64 0, .int .i64 0, .slice none 0 0] 32)).drew (w1.heap.size + 1) (.slice A n c) xs := hox4
        have hoD : Only w.heap.size (some g) w (wr.alloc (.cells #[.int .i64 0, .int .i64 0, .int .i64 0, .int .i64 0, .int .i64 0, .slice none 0 0] 32)).drew := ho4
        have hltD : w1.heap.size < ((wr.alloc (.cells #[.int .i64 0, .int .i64 0, .int .i64 0, .int .i64 0, .int .i64 0, .slice none 0 0] 32)).drew).heap.size := hyD.lt
        refine (l20Reply_c g _ r.2.1 (wr.alloc (.cells #[.int .i64 0, .int .i64 0, .int .i64 0, .int .i64 0, .int .i64 0, .slice none 0 0] 32)).drew hD6 (by omega) hrb.1 (by omega)).mono ?_
        rintro e w6 ⟨t6, rfl, hr6, h6⟩
        have hst6 : Stays w1.heap.size wr.heap[w1.heap.size]? w6 := ⟨(h6.block _ hltD hgy).trans hst4.heap⟩
        have hy6 := hyD.only h6 hgy
        have hx6 := hxD.only h6 hgb
        have hox6 := hoxD.only h6 (Nat.le_refl _) hneg
        have ho6 := hoD.trans (h6.mono hoD.size)
        have hz6 := hz4.only h6 hgz
        clear h6 hyD hxD hoxD hoD hD6
        have hl6w : w1.heap.size < w6.heap.size := hy6.lt
        go_wp2_with (first
          | ((with_reducible refine wpO_seg ?_); simp only [pickL, List.toList_toArray, List.getElem?_cons_succ, List.getElem?_cons_zero]) | ((with_reducible refine wpO_both ?_ ?_) <;> simp only [pickL, List.toList_toArray, List.getElem?_cons_succ, List.getElem?_cons_zero]) | ((with_reducible refine wpO_done ?_); try dsimp only) | ((with_reducible refine Stays.and_ ?_ ?_; (focus (repeat (first | (with_reducible assumption) | ((with_reducible refine Stays.cell ?_ ?_); rotate_left; (focus (first | (with_reducible assumption) | (simp; done) | (simp; omega)))) | (with_reducible refine Stays.drew ?_) | ((with_reducible refine Stays.alloc ?_ ?_ _); rotate_left; (focus (first | (with_reducible assumption) | omega)))))); intro hS)) | ((with_reducible refine wpT_q0 ?_ ?_ ?_ ?_); (focus rfl); (focus rfl); (focus rfl); intro K hK) | ((with_reducible apply wpT_k); (focus rfl); (focus rfl); (focus rfl); (focus rfl); (focus (first | assumption | exact Stays.drew (by assumption))); (focus rfl); (focus go_simp); intro K hK) | ((with_reducible refine wpT_xs0 ?_ ?_ ?_); (focus rfl); (focus rfl); intro K hK) | ((with_reducible refine wpT_noL ?_ ?_); (focus (first | exact wanted_no _ _ _ rfl rfl rfl | exact wanted_un _ _ _ rfl rfl rfl)); simp only [setO, List.set_cons_succ, List.set_cons_zero]) | ((with_reducible refine wpT_q1 ?_ ?_ ?_ ?_); (focus exact wanted_yes _ _ _ rfl rfl rfl); (focus rfl); (focus rfl); intro K hK) | ((with_reducible refine wpT_xs1 ?_ ?_ ?_); (focus exact wanted_yes _ _ _ rfl rfl rfl); (focus rfl); intro K hK) | ((with_reducible refine wpT_nil ?_); try dsimp only)
          | fail)
        have hst6V := hst6
        refine (specPlayerHear_c r A n c _ _ xs t6 w6 hnx'.out (by omega) hcap.1 hcap.2 (hox6.slAt encReply_len).2.2 (Nat.le_refl _)).mono ?_
        rintro e w7 ⟨r7, A7, n7, c7, b7, rfl, ho7, hn7, hr7, hb7, h7⟩
        have hst7 : Stays w1.heap.size wr.heap[w1.heap.size]? w7 := ⟨(h7.block _ hy6.lt).trans hst6.heap⟩
        have hy7 := hy6.below h7
        have hx7 := hx6.below h7
        have ho77 := ho6.trans ((Only.of_below h7).mono ho6.size)
        have hrd7 := hr6.keep h7
        have hl7 : w1.heap.size < (w6).heap.size := hy6.lt
        have hlx7 : w.heap.size < (w6).heap.size := hx6.lt
        have hz7 := hz6.below h7
        have hz7' := hz7
        have hgz7 : g < wr.heap.size := by have := hrr.lt; omega
        have hz7l : wr.heap.size < (w6).heap.size := hz6.lt
        obtain ⟨z0, z1, z2, z3, z4, z5, zf0, zf1, zf2, zf3, zf4, zf5⟩ := hz7'
        have hl77 : w1.heap.size < w7.heap.size := hy7.lt
        have hfin := hide (hear_fin hrb hnx'.out hn7 hr7)
        have hn7' := hide hn7
        have h7s := hide h7.size
        clear hn7 hr7 hb7
        have hy7' := hy7
        obtain ⟨y0, y1, y2, y3, y4, y5, yf0, yf1, yf2, yf3, yf4, yf5⟩ := hy7'
        go_wp2_with (first
          | ((with_reducible refine wpO_seg ?_); simp only [pickL, List.toList_toArray, List.getElem?_cons_succ, List.getElem?_cons_zero]) | ((with_reducible refine wpO_both ?_ ?_) <;> simp only [pickL, List.toList_toArray, List.getElem?_cons_succ, List.getElem?_cons_zero]) | ((with_reducible refine wpO_done ?_); try dsimp only) | ((with_reducible refine Stays.and_ ?_ ?_; (focus (repeat (first | (with_reducible assumption) | ((with_reducible refine Stays.cell ?_ ?_); rotate_left; (focus (first | (with_reducible assumption) | (simp; done) | (simp; omega)))) | (with_reducible refine Stays.drew ?_) | ((with_reducible refine Stays.alloc ?_ ?_ _); rotate_left; (focus (first | (with_reducible assumption) | omega)))))); intro hS)) | ((with_reducible refine wpT_q0 ?_ ?_ ?_ ?_); (focus rfl); (focus rfl); (focus rfl); intro K hK) | ((with_reducible apply wpT_k); (focus rfl); (focus rfl); (focus rfl); (focus rfl); (focus (first | assumption | exact Stays.drew (by assumption))); (focus rfl); (focus go_simp); intro K hK) | ((with_reducible refine wpT_xs0 ?_ ?_ ?_); (focus rfl); (focus rfl); intro K hK) | ((with_reducible refine wpT_noL ?_ ?_); (focus (first | exact wanted_no _ _ _ rfl rfl rfl | exact wanted_un _ _ _ rfl rfl rfl)); simp only [setO, List.set_cons_succ, List.set_cons_zero]) | ((with_reducible refine wpT_q1 ?_ ?_ ?_ ?_); (focus exact wanted_yes _ _ _ rfl rfl rfl); (focus rfl); (focus rfl); intro K hK) | ((with_reducible refine wpT_xs1 ?_ ?_ ?_); (focus exact wanted_yes _ _ _ rfl rfl rfl); (focus rfl); intro K hK) | ((with_reducible refine wpT_nil ?_); try dsimp only)
          | fail)
        go_roundw
        case rel =>
          exact ⟨m - 1, r7, A7, n7, c7, _, by go_num, by omega, hide (by have := hnm.out; have := hfin.out.2; omega), ⟨hfin.out.1, hn7'.out, ((ho7.mono (by have := hl7; omega)).set6 _ _ _ _ _ _ (fun k hk => by have := (ho7.lt k hk).1; omega)).set6 _ _ _ _ _ _ (fun k hk => by have := (ho7.lt k hk).1; omega), (hy7.other _ _ _ _ _ _ (Nat.ne_of_lt hl6)).set _ _ _ _ _ _ _ _⟩, (hx7.other _ _ _ _ _ _ (Nat.ne_of_lt hlx6)).other _ _ _ _ _ _ hwn, ((hrd7.set6 _ _ _ _ _ _ hgz7).set6 _ _ _ _ _ _ hgw).mono (by omega), (ho77.set6 _ _ _ _ _ _ (Nat.le_of_lt hlx6)).set6 _ _ _ _ _ _ hww⟩
        case measure => simp [intOf]; omega
    · obtain rfl : m = 0 := by omega
      have hneg : ∀ b, (Value.slice A n c).ownBlock = some b → some g ≠ some b := fun b hb e => by injection e with e; have := (hox.lt b hb).1; omega
      have hneb : ∀ k, (Value.slice A n c).ownBlock = some k → k ≠ w.heap.size := fun k hk => by have := (hox.lt k hk).1; omega
      have hney : ∀ k, (Value.slice A n c).ownBlock = some k → k ≠ w1.heap.size := fun k hk => by have := (hox.lt k hk).1; omega
      have hlo : w.heap.size ≤ w1.heap.size + 1 := by omega
      have hgr : r.2.1 ≤ 1000 := by omega
      go_wp2_with fail
      refine (pick_c g _ 14 wr hrr (by omega) (by omega)).mono ?_
      rintro e w4 ⟨k, rfl, hk, hr4, h4⟩
      have hx4 := hx.only h4 hgb
      have hy4 := hy.only h4 hgy
      have ho4 := hor.trans (h4.mono hor.size)
      have hox4 := hox.only h4 (Nat.le_refl _) hneg
      clear hk h4
      by_cases hk0 : k = 0
      · have d2 : ((k : Int) == 0) = true := by simp [hk0]
        clear hk0
        go_wp2_with fail
        refine (l20AnyReq_c g _ w4 hr4 (by omega)).mono ?_
        rintro e w5 ⟨t5, rfl, ht5, hr5, h5⟩
        have hx5 := hx4.only h5 hgb
        have hy5 := hy4.only h5 hgy
        have ho5 := ho4.trans (h5.mono ho4.size)
        have hox5 := hox4.only h5 (Nat.le_refl _) hneg
        obtain ⟨x0, x1, x2, x3, x4, x5, xf0, xf1, xf2, xf3, xf4, xf5⟩ := hx5
        obtain ⟨y0, y1, y2, y3, y4, y5, yf0, yf1, yf2, yf3, yf4, yf5⟩ := hy5
        go_wp2
        refine bodyPost_ret (v := .agg #[.int .i64 t5.1, .int .i64 t5.2.1, .int .i64 t5.2.2.1, .int .i64 t5.2.2.2.1, .int .i64 t5.2.2.2.2, .slice A n c]) (by simp [results, Try.results58, go_sem, x0, x1, x2, x3, x4, x5]) rfl ⟨t5, A, n, c, xs, rfl, hnx'.out, by omega, ht5, ?_, ?_, ?_⟩
        · exact ((hox5.mono hlo).keep (fun k hk => set5_keep _ _ _ _ _ (hney k hk))).set6 _ _ _ _ _ _ hneb
        · exact ((hr5.below (set5_below _ _ _ _ _ (show g + 1 ≤ w1.heap.size from hgw) (Below.refl (g + 1) w5)) (by omega)).set6 _ _ _ _ _ _ hg).mono (by omega)
        · exact (ho5.trans (Only.of_below (set5_below _ _ _ _ _ hww (Below.refl w.heap.size w5)))).set6 _ _ _ _ _ _ (Nat.le_refl _)
      · have d2 : ((k : Int) == 0) = false := by simpa using hk0
        by_cases hk1 : k = 1
        · have d3 : ((k : Int) == 1) = true := by simp [hk1]
          clear hk0 hk1
          have hy4' := hy4
          have hr4D : Rd w4.drew g _ := hr4
          have hx4D : Box6 w4.drew w.heap.size _ _ _ _ _ _ := hx4
          have hy4D : Box6 w4.drew w1.heap.size _ _ _ _ _ _ := hy4
          have ho4D : Only w.heap.size (some g) w w4.drew := ho4.drew
          have hox4D : Own encReply 4 37 w4.drew (w1.heap.size + 1) (.slice A n c) xs := hox4
          obtain ⟨y0, y1, y2, y3, y4, y5, yf0, yf1, yf2, yf3, yf4, yf5⟩ := hy4'
          go_wp2
          refine wp_region_O (fun _ => True) [29, 32] [37, 41] [] (Ord.seg [0, 2, 3, 4] (Ord.both 1 5 (Ord.seg [5, 6, 7, 8, 9, 10] Ord.done) (Ord.seg [] (Ord.both 1 6 (Ord.seg [6, 7, 8, 9, 10] Ord.done) (Ord.seg [] (Ord.both 1 7 (Ord.seg [7, 8, 9, 10] Ord.done) (Ord.seg [1, 8, 9, 10] Ord.done))))))) (by kernel_rfl) (by kernel_rfl) (by kernel_rfl) trivial ?_
          go_wp2_with (first
            | ((with_reducible refine wpO_seg ?_); simp only [pickL, List.toList_toArray, List.getElem?_cons_succ, List.getElem?_cons_zero]) | ((with_reducible refine wpO_both ?_ ?_) <;> simp only [pickL, List.toList_toArray, List.getElem?_cons_succ, List.getElem?_cons_zero]) | ((with_reducible refine wpO_done ?_); try dsimp only) | ((with_reducible refine wpT_q0 ?_ ?_ ?_ ?_); (focus rfl); (focus rfl); (focus rfl); intro K hK) | ((with_reducible refine wpT_x0 ?_ ?_ ?_); (focus rfl); (focus rfl); intro K hK) | ((with_reducible refine wpT_noL ?_ ?_); (focus (first | exact wanted_no _ _ _ rfl rfl rfl | exact wanted_un _ _ _ rfl rfl rfl)); simp only [setO, List.set_cons_succ, List.set_cons_zero]) | ((with_reducible refine wpT_q1 ?_ ?_ ?_ ?_); (focus exact wanted_yes _ _ _ rfl rfl rfl); (focus rfl); (focus rfl); intro K hK) | ((with_reducible refine wpT_x1 ?_ ?_ ?_); (focus exact wanted_yes _ _ _ rfl rfl rfl); (focus rfl); intro K hK) | ((with_reducible refine wpT_nil ?_); try dsimp only)
            | fail)
          all_goals
            refine (l20Reply_c g _ r.2.1 w4.drew hr4D (by omega) hrb.1 hgr).mono ?_
            rintro e w5 ⟨t5, rfl, hr5, h5⟩
            have hx5 := hx4D.only h5 hgb
            have hy5 := hy4D.only h5 hgy
            have ho5 := ho4D.trans (h5.mono ho4D.size)
            have hox5 := hox4D.only h5 (Nat.le_refl _) hneg
            have hl5 : w1.heap.size < w5.heap.size := hy5.lt
            have hlx5 : w.heap.size < w5.heap.size := hx5.lt
            have hy5' := hy5
            obtain ⟨y0, y1, y2, y3, y4, y5, yf0, yf1, yf2, yf3, yf4, yf5⟩ := hy5'
            have hsl5 : Sl encReply 4 (w5.alloc (.cells #[.int .i64 t5.1, .int .i64 t5.2.1, .int .i64 t5.2.2.1, .int .i64 t5.2.2.2] 37)) 0 (w5.heap.size + 1) (some ⟨w5.heap.size, 0, none⟩) [t5] := (sl_arr encReply_len w5 #[.int .i64 t5.1, .int .i64 t5.2.1, .int .i64 t5.2.2.1, .int .i64 t5.2.2.2] 37 [t5] rfl).mono (Nat.zero_le _) (Nat.le_refl _)
            have hA5 := (Below.refl w5.heap.size w5).alloc (Nat.le_refl _) (.cells #[.int .i64 t5.1, .int .i64 t5.2.1, .int .i64 t5.2.2.1, .int .i64 t5.2.2.2] 37)
            have hr5a := hr5.keep hA5
            have ho5a := ho5.trans ((Only.of_below hA5).mono ho5.size)
            have hox5a := hox5.alloc (.cells #[.int .i64 t5.1, .int .i64 t5.2.1, .int .i64 t5.2.2.1, .int .i64 t5.2.2.2] 37)
            clear h5
            go_wp2_with (first
              | ((with_reducible refine wpT_x0 ?_ ?_ ?_); (focus rfl); (focus rfl); intro K hK; refine wp_app encReply_len (by omega) encReply_one _ _ 30 rfl 37 _ 32 Try.underlying30 infoReply rfl (w1.heap.size + 1) _ xs rfl hox5a 0 _ _ [t5] _ _ rfl rfl hsl5 (by have := hnx'.out; simp [maxLen]; omega) (by simp; omega) ?_; intro v7 w7 ho7 hg7 hb7; obtain ⟨A7, c7, rfl, hc71, hc72, _⟩ := ho7.form; have hky : w7.heap[w1.heap.size]? = w5.heap[w1.heap.size]? := (hb7.block _ (Nat.lt_succ_self _)).trans (hA5.block _ hl5); have hkx : w7.heap[w.heap.size]? = w5.heap[w.heap.size]? := (hb7.block _ (by omega)).trans (hA5.block _ hlx5); have hy7 := hy5.keep hky; have hx7 := hx5.keep hkx; have hr7 := hr5a.below hb7 (by omega); have ho77 := ho5a.trans (Only.of_below (hb7.mono hlo)); obtain ⟨y0, y1, y2, y3, y4, y5, yf0, yf1, yf2, yf3, yf4, yf5⟩ := hy7; obtain ⟨x0, x1, x2, x3, x4, x5, xf0, xf1, xf2, xf3, xf4, xf5⟩ := hx7)
              | ((with_reducible refine wpO_seg ?_); simp only [pickL, List.toList_toArray, List.getElem?_cons_succ, List.getElem?_cons_zero]) | ((with_reducible refine wpO_both ?_ ?_) <;> simp only [pickL, List.toList_toArray, List.getElem?_cons_succ, List.getElem?_cons_zero]) | ((with_reducible refine wpO_done ?_); try dsimp only) | ((with_reducible refine wpT_q0 ?_ ?_ ?_ ?_); (focus rfl); (focus rfl); (focus rfl); intro K hK) | ((with_reducible refine wpT_x0 ?_ ?_ ?_); (focus rfl); (focus rfl); intro K hK) | ((with_reducible refine wpT_noL ?_ ?_); (focus (first | exact wanted_no _ _ _ rfl rfl rfl | exact wanted_un _ _ _ rfl rfl rfl)); simp only [setO, List.set_cons_succ, List.set_cons_zero]) | ((with_reducible refine wpT_q1 ?_ ?_ ?_ ?_); (focus exact wanted_yes _ _ _ rfl rfl rfl); (focus rfl); (focus rfl); intro K hK) | ((with_reducible refine wpT_x1 ?_ ?_ ?_); (focus exact wanted_yes _ _ _ rfl rfl rfl); (focus rfl); intro K hK) | ((with_reducible refine wpT_nil ?_); try dsimp only)
              | fail)
            all_goals
              have hlx7 : (xs ++ [t5]).length = xs.length + 1 := by simp
              rw [hlx7] at ho7
              have h7ne : ∀ k, (Value.slice A7 (xs.length + 1) c7).ownBlock = some k → w1.heap.size < k := fun k hk => (ho7.lt k hk).1
              exact bodyPost_ret (v := .agg #[.int .i64 r.1, .int .i64 r.2.1, .int .i64 r.2.2.1, .int .i64 r.2.2.2.1, .int .i64 r.2.2.2.2, .slice A7 (xs.length + 1) c7]) (by simp [results, Try.results58, go_sem, x0, x1, x2, x3, x4, x5]) rfl ⟨r, A7, xs.length + 1, c7, xs ++ [t5], rfl, hlx7.symm, by have := hnx'.out; omega, hrb, ((ho7.mono hlo).keep (fun k hk => Below.heap_setCell _ ⟨_, 5, none⟩ _ k (Nat.ne_of_gt (h7ne k hk)))).set6 _ _ _ _ _ _ (fun k hk => by have := h7ne k hk; omega), ((hr7.below ((Below.refl (g + 1) w7).setCell (show g + 1 ≤ w1.heap.size from hgw) _) (by omega)).set6 _ _ _ _ _ _ hg).mono (by omega), (ho77.trans (Only.of_below ((Below.refl w.heap.size w7).setCell hww _))).set6 _ _ _ _ _ _ (Nat.le_refl _)⟩
        · have d3 : ((k : Int) == 1) = false := by simp only [beq_eq_false_iff_ne, ne_eq]; omega
          clear hk0 hk1
          obtain ⟨x0, x1, x2, x3, x4, x5, xf0, xf1, xf2, xf3, xf4, xf5⟩ := hx4
          obtain ⟨y0, y1, y2, y3, y4, y5, yf0, yf1, yf2, yf3, yf4, yf5⟩ := hy4
          go_wp2
          refine bodyPost_ret (v := .agg #[.int .i64 r.1, .int .i64 r.2.1, .int .i64 r.2.2.1, .int .i64 r.2.2.2.1, .int .i64 r.2.2.2.2, .slice A n c]) (by simp [results, Try.results58, go_sem, x0, x1, x2, x3, x4, x5]) rfl ⟨r, A, n, c, xs, rfl, hnx'.out, by omega, hrb, ?_, ?_, ?_⟩
          · exact (hox4.mono hlo).set6 _ _ _ _ _ _ hneb
          · exact (hr4.set6 _ _ _ _ _ _ hg).mono (by omega)
          · exact ho4.set6 _ _ _ _ _ _ (Nat.le_refl _)
end Go.Proofs.Ytchofialljhojaa
