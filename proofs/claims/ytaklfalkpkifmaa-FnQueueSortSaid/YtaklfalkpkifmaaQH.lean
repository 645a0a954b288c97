/-
  The walk of 'pop'.
-/
import Derived.Test.YtaklfalkpkifmaaQG
namespace Go.Proofs.Ytaklfalkpkifmaa
open Go.RowKit Rg
set_option linter.unusedVariables false
/-- What 'pop' leaves of a queue. -/
def popL (xs : List Tm) (h : 0 < xs.length) : List Tm := sinkAt 0 ((xs.set 0 (xs[xs.length - 1]'(by omega))).take (xs.length - 1))
/-- The two boxes of 'pop', told by their cells. -/
structure Boxes (b : Nat) (t u : Tm) (wr : World) : Prop where
  l : b + 1 < wr.heap.size
  a1 : wr.cell? ⟨b, 0, none⟩ = some (.int .i64 u.1)
  a2 : wr.cell? ⟨b, 1, none⟩ = some (.int .i64 u.2.1)
  a3 : wr.cell? ⟨b, 2, none⟩ = some (.int .i64 u.2.2)
  f1 : wr.frozen? ⟨b, 0, none⟩ = false
  f2 : wr.frozen? ⟨b, 1, none⟩ = false
  f3 : wr.frozen? ⟨b, 2, none⟩ = false
  c1 : wr.cell? ⟨b + 1, 0, none⟩ = some (.int .i64 t.1)
  c2 : wr.cell? ⟨b + 1, 1, none⟩ = some (.int .i64 t.2.1)
  c3 : wr.cell? ⟨b + 1, 2, none⟩ = some (.int .i64 t.2.2)
theorem Boxes.only {b g : Nat} {t u : Tm} {wr w' : World} (h : Boxes b t u wr) (ho : Only wr.heap.size (some g) wr w') (hg : g < b) : Boxes b t u w' := by
  have k0 : w'.heap[b]? = wr.heap[b]? := ho.block b (by have := h.l; omega) (by simp; omega)
  have k1 : w'.heap[b + 1]? = wr.heap[b + 1]? := ho.block (b + 1) h.l (by simp; omega)
  exact ⟨Nat.lt_of_lt_of_le h.l ho.size, (World.cell?_of_block k0).trans h.a1, (World.cell?_of_block k0).trans h.a2, (World.cell?_of_block k0).trans h.a3, (World.frozen?_of_block k0).trans h.f1, (World.frozen?_of_block k0).trans h.f2, (World.frozen?_of_block k0).trans h.f3,
    (World.cell?_of_block k1).trans h.c1, (World.cell?_of_block k1).trans h.c2, (World.cell?_of_block k1).trans h.c3⟩

theorem Boxes.made {W : World} {b : Nat} (hb : b = W.heap.size) (t u : Tm) (e : TypeId) : Boxes b t u ((W.alloc (.cells #[.int .i64 u.1, .int .i64 u.2.1, .int .i64 u.2.2] e)).alloc (.cells #[.int .i64 t.1, .int .i64 t.2.1, .int .i64 t.2.2] e)) := by
  subst hb
  have e0 : ((W.alloc (.cells #[.int .i64 u.1, .int .i64 u.2.1, .int .i64 u.2.2] e)).alloc (.cells #[.int .i64 t.1, .int .i64 t.2.1, .int .i64 t.2.2] e)).heap[W.heap.size]? = some (.cells #[.int .i64 u.1, .int .i64 u.2.1, .int .i64 u.2.2] e (0, 0)) := by
    rw [Below.heap_alloc _ _ _ (by simp)]
    exact heap_alloc_new W _
  have e1 : ((W.alloc (.cells #[.int .i64 u.1, .int .i64 u.2.1, .int .i64 u.2.2] e)).alloc (.cells #[.int .i64 t.1, .int .i64 t.2.1, .int .i64 t.2.2] e)).heap[W.heap.size + 1]? = some (.cells #[.int .i64 t.1, .int .i64 t.2.1, .int .i64 t.2.2] e (0, 0)) := by
    have := heap_alloc_new (W.alloc (.cells #[.int .i64 u.1, .int .i64 u.2.1, .int .i64 u.2.2] e)) (.cells #[.int .i64 t.1, .int .i64 t.2.1, .int .i64 t.2.2] e)
    simpa using this
  exact ⟨by simp, by simp only [World.cell?, e0]; rfl, by simp only [World.cell?, e0]; rfl, by simp only [World.cell?, e0]; rfl, by simp only [World.frozen?, e0]; rfl, by simp only [World.frozen?, e0]; rfl, by simp only [World.frozen?, e0]; rfl, by simp only [World.cell?, e1]; rfl, by simp only [World.cell?, e1]; rfl, by simp only [World.cell?, e1]; rfl⟩
theorem Own.box3 {α : Type} {enc : α → List Value} {sz lo b : Nat} {e : TypeId} {v : Value} {xs : List α} {w : World} (h : Own enc sz e w lo v xs) (hne : ∀ k, v.ownBlock = some k → k ≠ b) (u0 u1 u2 : Value) :
    Own enc sz e (((w.setCell ⟨b, 0, none⟩ u0).setCell ⟨b, 1, none⟩ u1).setCell ⟨b, 2, none⟩ u2) lo v xs :=
  h.keep fun k hk => heap_putCells_other [u0, u1, u2] w b 0 k (hne k hk)
theorem Only.box3 {a w : World} {g : Option Nat} (h : Only a.heap.size g a w) (u0 u1 u2 : Value) : Only a.heap.size g a (((w.setCell ⟨a.heap.size, 0, none⟩ u0).setCell ⟨a.heap.size, 1, none⟩ u1).setCell ⟨a.heap.size, 2, none⟩ u2) :=
  h.trans (Only.of_below (below_putCells [u0, u1, u2] (Below.refl _ _) (Nat.le_refl _)))

set_option maxHeartbeats 4000000 in
theorem pop_c (g n c lo : Nat) (xs : List Tm) (w : World) (hn : n + 1 = xs.length) (hx0 : 0 < xs.length) (hb : n ≤ 1048576) (ho : Own encT 3 31 w lo (.slice (some ⟨g, 0, none⟩) (n + 1) c) xs) :
    Calls Try.prog 47 #[.slice (some ⟨g, 0, none⟩) (n + 1) c] w fun e w' => e = .returned (.tuple #[.slice (some ⟨g, 0, none⟩) n c, .agg #[.int .i64 xs[0].1, .int .i64 xs[0].2.1, .int .i64 xs[0].2.2]]) ∧ Own encT 3 31 w' lo (.slice (some ⟨g, 0, none⟩) n c) (popL xs hx0) ∧ Only w.heap.size (some g) w w' := by
  have hxn : n < xs.length := by omega
  have hn' := hide hn
  have hgw : g < w.heap.size := (ho.lt g rfl).2
  have hcap := ho.cap
  have hgn : ¬ g = w.heap.size := by omega
  have hgm : ¬ w.heap.size = g := by omega
  obtain ⟨z1, z2, z3⟩ := ho.tm hx0
  obtain ⟨v1, v2, v3⟩ := ho.tm hxn
  have f0 := ho.frozen (0 * 3)
  have f1 := ho.frozen (0 * 3 + 1)
  have f2 := ho.frozen (0 * 3 + 2)
  have hset := (ho.putTm (k := 0) (by omega) xs[n]).cutTo encT_len (k := n) (by omega)
  simp only [Nat.zero_mul, Nat.zero_add] at z1 z2 z3 f0 f1 f2 hset
  have hL : (xs.set 0 xs[n]).take n = (xs.set 0 (xs[xs.length - 1]'(by omega))).take (xs.length - 1) := by
    have e1 : xs.length - 1 = n := by omega
    simp only [e1]
  have hp : Hid (popL xs hx0 = sinkAt 0 ((xs.set 0 xs[n]).take n)) := hide (by unfold popL; rw [hL])
  have hlen : Hid (n = ((xs.set 0 xs[n]).take n).length) := hide (by simp; omega)
  clear hn hL
  go_enter Try.func47, Try.ntmps47
  go_wp2
  go_loopw [6, 7] (fun iv _ wr => ∃ i : Nat, ∃ ys : List Tm, i ≤ n ∧ iv = .int .i64 i ∧ Hid (n = ys.length) ∧ Own encT 3 31 wr lo (.slice (some ⟨g, 0, none⟩) n c) ys ∧ Hid (sinkAt i ys = popL xs hx0) ∧ Only w.heap.size (some g) w wr ∧ Boxes w.heap.size xs[0] (0, 0, 0) wr) (fun iv _ _ => n - (intOf iv).toNat)
  case atStart =>
    refine ⟨0, _, Nat.zero_le _, by go_num, hlen, (hset.alloc _).alloc _, hide hp.out.symm, ((Only.putTm (j := 0) (Only.refl _ _ _) xs[n]).allocs _).allocs _, ?_⟩
    exact Boxes.made (by simp [World.setCell]) _ _ _
  case round =>
    obtain ⟨i, ys, hi, rfl, hm, hor, he, hon, hbx⟩ := hrel
    have hgr : g < wr.heap.size := (hor.lt g rfl).2
    by_cases hlt : 2 * i + 1 < n
    · have d1 : decide (2 * (i : Int) + 1 < (n : Int)) = true := by simp; omega
      have hl1 : 2 * i + 1 < ys.length := by have := hm.out; omega
      have hlx : i < ys.length := by omega
      have hpos := hor.addrAt (k := i) (by omega)
      by_cases h2 : 2 * i + 1 + 1 < n
      · have d2 : decide (2 * (i : Int) + 1 + 1 < (n : Int)) = true := by simp; omega
        have hl2 : 2 * i + 1 + 1 < ys.length := by have := hm.out; omega
        obtain ⟨p1, p2, p3⟩ := hor.tm hl2
        obtain ⟨q1, q2, q3⟩ := hor.tm hl1
        cases e1 : ltT ys[2 * i + 1 + 1] ys[2 * i + 1]
        · have hk : Hid (2 * i + 1 = kid i ys) := hide (by simp [kid, hl2, e1])
          have hlk : 2 * i + 1 < ys.length := by omega
          cases e2 : ltT ys[2 * i + 1] ys[i]
          · go_wp2
            refine wp_region_T (fun _ => True) [] [] [] [0, 1, 2, 3, 4, 5, 6, 7, 8, 9, 10, 11, 12, 13, 14, 15] (by kernel_rfl) (by kernel_rfl) (by kernel_rfl) trivial ?_; simp only [pickL, List.getElem?_cons_succ, List.getElem?_cons_zero]
            go_wp2_with (first
              | ((with_reducible refine wpT_q0 ?_ ?_ ?_ ?_); (focus rfl); (focus rfl); (focus rfl); intro K hK) | ((with_reducible refine wpT_x0 ?_ ?_ ?_); (focus rfl); (focus rfl); intro K hK) | ((with_reducible refine wpT_noL ?_ ?_); (focus (first | exact wanted_no _ _ _ rfl rfl rfl | exact wanted_un _ _ _ rfl rfl rfl)); simp only [setO, List.set_cons_succ, List.set_cons_zero]) | ((with_reducible refine wpT_q1 ?_ ?_ ?_ ?_); (focus exact wanted_yes _ _ _ rfl rfl rfl); (focus rfl); (focus rfl); intro K hK) | ((with_reducible refine wpT_x1 ?_ ?_ ?_); (focus exact wanted_yes _ _ _ rfl rfl rfl); (focus rfl); intro K hK) | ((with_reducible refine wpT_nil ?_); try dsimp only)
              | (go_at_call 38; refine (before_t ys[2 * i + 1 + 1] ys[2 * i + 1] _).mono ?_; rintro e w1 ⟨rfl, hb1⟩; have hw1 : Only w.heap.size (some g) w w1 := hon.drew.trans ((Only.of_below hb1).mono hon.size); have hv1 : Only wr.heap.size (some g) wr w1 := (Only.refl _ _ _).drew.trans (Only.of_below hb1); have hor1 := hor.drew.below hb1 (Nat.le_refl _); dsimp only)
              | fail)
            obtain ⟨i1, i2, i3⟩ := hor1.tm hlx
            obtain ⟨k1, k2, k3⟩ := hor1.tm hlk
            refine wp_region_T (fun _ => True) [] [] [] [0, 1, 2, 3, 4, 5, 6, 7, 8, 9] (by kernel_rfl) (by kernel_rfl) (by kernel_rfl) trivial ?_; simp only [pickL, List.getElem?_cons_succ, List.getElem?_cons_zero]
            go_wp2_with (first
              | ((with_reducible refine wpT_q0 ?_ ?_ ?_ ?_); (focus rfl); (focus rfl); (focus rfl); intro K hK) | ((with_reducible refine wpT_x0 ?_ ?_ ?_); (focus rfl); (focus rfl); intro K hK) | ((with_reducible refine wpT_noL ?_ ?_); (focus (first | exact wanted_no _ _ _ rfl rfl rfl | exact wanted_un _ _ _ rfl rfl rfl)); simp only [setO, List.set_cons_succ, List.set_cons_zero]) | ((with_reducible refine wpT_q1 ?_ ?_ ?_ ?_); (focus exact wanted_yes _ _ _ rfl rfl rfl); (focus rfl); (focus rfl); intro K hK) | ((with_reducible refine wpT_x1 ?_ ?_ ?_); (focus exact wanted_yes _ _ _ rfl rfl rfl); (focus rfl); intro K hK) | ((with_reducible refine wpT_nil ?_); try dsimp only)
              | (go_at_call 38; refine (before_t ys[2 * i + 1] ys[i] _).mono ?_; rintro e w2 ⟨rfl, hb2⟩; have hw2 : Only w.heap.size (some g) w w2 := hw1.drew.trans ((Only.of_below hb2).mono hw1.size); have hv2 : Only wr.heap.size (some g) wr w2 := hv1.drew.trans ((Only.of_below hb2).mono hv1.size); have ho1 := hor1.drew.below hb2 (Nat.le_refl _); have f0 := ho1.frozen (i * 3); have f1 := ho1.frozen (i * 3 + 1); have f2 := ho1.frozen (i * 3 + 2); have y0 := ho1.frozen ((2 * i + 1) * 3); have y1 := ho1.frozen ((2 * i + 1) * 3 + 1); have y2 := ho1.frozen ((2 * i + 1) * 3 + 2); obtain ⟨i1, i2, i3⟩ := ho1.tm hlx; obtain ⟨k1, k2, k3⟩ := ho1.tm hlk; have hgs : g < w2.heap.size := (ho1.lt g rfl).2; have hgn : ¬ g = w2.heap.size := (by omega); have hgm : ¬ w2.heap.size = g := (by omega); dsimp only)
              | fail)
            obtain ⟨x0, x1, x2, x3, x4, x5, x6, x7, x8, x9⟩ := hbx.only hv2 hgw
            refine wp_region_T (fun _ => True) [] [] [] [0, 1, 2, 3] (by kernel_rfl) (by kernel_rfl) (by kernel_rfl) trivial ?_; simp only [pickL, List.getElem?_cons_succ, List.getElem?_cons_zero]
            go_wp2_with (first
              | ((with_reducible refine wpT_q0 ?_ ?_ ?_ ?_); (focus rfl); (focus rfl); (focus rfl); intro K hK) | ((with_reducible refine wpT_x0 ?_ ?_ ?_); (focus rfl); (focus rfl); intro K hK) | ((with_reducible refine wpT_noL ?_ ?_); (focus (first | exact wanted_no _ _ _ rfl rfl rfl | exact wanted_un _ _ _ rfl rfl rfl)); simp only [setO, List.set_cons_succ, List.set_cons_zero]) | ((with_reducible refine wpT_q1 ?_ ?_ ?_ ?_); (focus exact wanted_yes _ _ _ rfl rfl rfl); (focus rfl); (focus rfl); intro K hK) | ((with_reducible refine wpT_x1 ?_ ?_ ?_); (focus exact wanted_yes _ _ _ rfl rfl rfl); (focus rfl); intro K hK) | ((with_reducible refine wpT_nil ?_); try dsimp only)
              | fail)
            refine bodyPost_ret (v := .tuple #[.slice (some ⟨g, 0, none⟩) n c, .agg #[.int .i64 xs[0].1, .int .i64 xs[0].2.1, .int .i64 xs[0].2.2]]) (by simp [results, Try.results47, go_sem, x1, x2, x3]) rfl ⟨rfl, ?_, ?_⟩
            · rw [← he.out, sinkAt_stop hl1 hk.out e2]
              exact (ho1.box3 (fun k hk => by cases hk; omega) _ _ _).drew
            · exact (hw2.box3 _ _ _).drew
          · go_wp2
            refine wp_region_T (fun _ => True) [] [] [] [0, 1, 2, 3, 4, 5, 6, 7, 8, 9, 10, 11, 12, 13, 14, 15] (by kernel_rfl) (by kernel_rfl) (by kernel_rfl) trivial ?_; simp only [pickL, List.getElem?_cons_succ, List.getElem?_cons_zero]
            go_wp2_with (first
              | ((with_reducible refine wpT_q0 ?_ ?_ ?_ ?_); (focus rfl); (focus rfl); (focus rfl); intro K hK) | ((with_reducible refine wpT_x0 ?_ ?_ ?_); (focus rfl); (focus rfl); intro K hK) | ((with_reducible refine wpT_noL ?_ ?_); (focus (first | exact wanted_no _ _ _ rfl rfl rfl | exact wanted_un _ _ _ rfl rfl rfl)); simp only [setO, List.set_cons_succ, List.set_cons_zero]) | ((with_reducible refine wpT_q1 ?_ ?_ ?_ ?_); (focus exact wanted_yes _ _ _ rfl rfl rfl); (focus rfl); (focus rfl); intro K hK) | ((with_reducible refine wpT_x1 ?_ ?_ ?_); (focus exact wanted_yes _ _ _ rfl rfl rfl); (focus rfl); intro K hK) | ((with_reducible refine wpT_nil ?_); try dsimp only)
              | (go_at_call 38; refine (before_t ys[2 * i + 1 + 1] ys[2 * i + 1] _).mono ?_; rintro e w1 ⟨rfl, hb1⟩; have hw1 : Only w.heap.size (some g) w w1 := hon.drew.trans ((Only.of_below hb1).mono hon.size); have hv1 : Only wr.heap.size (some g) wr w1 := (Only.refl _ _ _).drew.trans (Only.of_below hb1); have hor1 := hor.drew.below hb1 (Nat.le_refl _); dsimp only)
              | fail)
            obtain ⟨i1, i2, i3⟩ := hor1.tm hlx
            obtain ⟨k1, k2, k3⟩ := hor1.tm hlk
            refine wp_region_T (fun _ => True) [] [] [] [0, 1, 2, 3, 4, 5, 6, 7, 8, 9] (by kernel_rfl) (by kernel_rfl) (by kernel_rfl) trivial ?_; simp only [pickL, List.getElem?_cons_succ, List.getElem?_cons_zero]
            go_wp2_with (first
              | ((with_reducible refine wpT_q0 ?_ ?_ ?_ ?_); (focus rfl); (focus rfl); (focus rfl); intro K hK) | ((with_reducible refine wpT_x0 ?_ ?_ ?_); (focus rfl); (focus rfl); intro K hK) | ((with_reducible refine wpT_noL ?_ ?_); (focus (first | exact wanted_no _ _ _ rfl rfl rfl | exact wanted_un _ _ _ rfl rfl rfl)); simp only [setO, List.set_cons_succ, List.set_cons_zero]) | ((with_reducible refine wpT_q1 ?_ ?_ ?_ ?_); (focus exact wanted_yes _ _ _ rfl rfl rfl); (focus rfl); (focus rfl); intro K hK) | ((with_reducible refine wpT_x1 ?_ ?_ ?_); (focus exact wanted_yes _ _ _ rfl rfl rfl); (focus rfl); intro K hK) | ((with_reducible refine wpT_nil ?_); try dsimp only)
              | (go_at_call 38; refine (before_t ys[2 * i + 1] ys[i] _).mono ?_; rintro e w2 ⟨rfl, hb2⟩; have hw2 : Only w.heap.size (some g) w w2 := hw1.drew.trans ((Only.of_below hb2).mono hw1.size); have hv2 : Only wr.heap.size (some g) wr w2 := hv1.drew.trans ((Only.of_below hb2).mono hv1.size); have ho1 := hor1.drew.below hb2 (Nat.le_refl _); have f0 := ho1.frozen (i * 3); have f1 := ho1.frozen (i * 3 + 1); have f2 := ho1.frozen (i * 3 + 2); have y0 := ho1.frozen ((2 * i + 1) * 3); have y1 := ho1.frozen ((2 * i + 1) * 3 + 1); have y2 := ho1.frozen ((2 * i + 1) * 3 + 2); obtain ⟨i1, i2, i3⟩ := ho1.tm hlx; obtain ⟨k1, k2, k3⟩ := ho1.tm hlk; have hgs : g < w2.heap.size := (ho1.lt g rfl).2; have hgn : ¬ g = w2.heap.size := (by omega); have hgm : ¬ w2.heap.size = g := (by omega); dsimp only)
              | fail)
            have k9 := ho1.tm hlk
            refine wp_region_T (fun _ => True) [] [] [] [0, 1, 2, 3, 4, 5, 6, 7, 8, 9, 10, 11, 12, 13, 14, 15] (by kernel_rfl) (by kernel_rfl) (by kernel_rfl) trivial ?_; simp only [pickL, List.getElem?_cons_succ, List.getElem?_cons_zero]
            go_wp2_with (first
              | ((with_reducible refine wpT_q0 ?_ ?_ ?_ ?_); (focus rfl); (focus rfl); (focus rfl); intro K hK) | ((with_reducible refine wpT_x0 ?_ ?_ ?_); (focus rfl); (focus rfl); intro K hK) | ((with_reducible refine wpT_noL ?_ ?_); (focus (first | exact wanted_no _ _ _ rfl rfl rfl | exact wanted_un _ _ _ rfl rfl rfl)); simp only [setO, List.set_cons_succ, List.set_cons_zero]) | ((with_reducible refine wpT_q1 ?_ ?_ ?_ ?_); (focus exact wanted_yes _ _ _ rfl rfl rfl); (focus rfl); (focus rfl); intro K hK) | ((with_reducible refine wpT_x1 ?_ ?_ ?_); (focus exact wanted_yes _ _ _ rfl rfl rfl); (focus rfl); intro K hK) | ((with_reducible refine wpT_nil ?_); try dsimp only)
              | fail)
            go_roundw
            case rel =>
              refine ⟨2 * i + 1, swap ys i (2 * i + 1) hlx hlk, by omega, by go_num, hide (by rw [swap_len]; exact hm.out), ?_, hide ((sinkAt_step hl1 hk.out e2).symm.trans he.out), ?_, ?_⟩
              · exact (ho1.swapTm (by omega) (by omega) hlx hlk).drew
              · exact ((hw2.putTm ys[2 * i + 1]).putTm ys[i]).drew
              · exact hbx.only ((hv2.putTm ys[2 * i + 1]).putTm ys[i]).drew hgw
            case measure => simp [intOf]; omega
        · have hk : Hid (2 * i + 1 + 1 = kid i ys) := hide (by simp [kid, hl2, e1])
          have hlk : 2 * i + 1 + 1 < ys.length := by omega
          cases e2 : ltT ys[2 * i + 1 + 1] ys[i]
          · go_wp2
            refine wp_region_T (fun _ => True) [] [] [] [0, 1, 2, 3, 4, 5, 6, 7, 8, 9, 10, 11, 12, 13, 14, 15] (by kernel_rfl) (by kernel_rfl) (by kernel_rfl) trivial ?_; simp only [pickL, List.getElem?_cons_succ, List.getElem?_cons_zero]
            go_wp2_with (first
              | ((with_reducible refine wpT_q0 ?_ ?_ ?_ ?_); (focus rfl); (focus rfl); (focus rfl); intro K hK) | ((with_reducible refine wpT_x0 ?_ ?_ ?_); (focus rfl); (focus rfl); intro K hK) | ((with_reducible refine wpT_noL ?_ ?_); (focus (first | exact wanted_no _ _ _ rfl rfl rfl | exact wanted_un _ _ _ rfl rfl rfl)); simp only [setO, List.set_cons_succ, List.set_cons_zero]) | ((with_reducible refine wpT_q1 ?_ ?_ ?_ ?_); (focus exact wanted_yes _ _ _ rfl rfl rfl); (focus rfl); (focus rfl); intro K hK) | ((with_reducible refine wpT_x1 ?_ ?_ ?_); (focus exact wanted_yes _ _ _ rfl rfl rfl); (focus rfl); intro K hK) | ((with_reducible refine wpT_nil ?_); try dsimp only)
              | (go_at_call 38; refine (before_t ys[2 * i + 1 + 1] ys[2 * i + 1] _).mono ?_; rintro e w1 ⟨rfl, hb1⟩; have hw1 : Only w.heap.size (some g) w w1 := hon.drew.trans ((Only.of_below hb1).mono hon.size); have hv1 : Only wr.heap.size (some g) wr w1 := (Only.refl _ _ _).drew.trans (Only.of_below hb1); have hor1 := hor.drew.below hb1 (Nat.le_refl _); dsimp only)
              | fail)
            obtain ⟨i1, i2, i3⟩ := hor1.tm hlx
            obtain ⟨k1, k2, k3⟩ := hor1.tm hlk
            refine wp_region_T (fun _ => True) [] [] [] [0, 1, 2, 3, 4, 5, 6, 7, 8, 9] (by kernel_rfl) (by kernel_rfl) (by kernel_rfl) trivial ?_; simp only [pickL, List.getElem?_cons_succ, List.getElem?_cons_zero]
            go_wp2_with (first
              | ((with_reducible refine wpT_q0 ?_ ?_ ?_ ?_); (focus rfl); (focus rfl); (focus rfl); intro K hK) | ((with_reducible refine wpT_x0 ?_ ?_ ?_); (focus rfl); (focus rfl); intro K hK) | ((with_reducible refine wpT_noL ?_ ?_); (focus (first | exact wanted_no _ _ _ rfl rfl rfl | exact wanted_un _ _ _ rfl rfl rfl)); simp only [setO, List.set_cons_succ, List.set_cons_zero]) | ((with_reducible refine wpT_q1 ?_ ?_ ?_ ?_); (focus exact wanted_yes _ _ _ rfl rfl rfl); (focus rfl); (focus rfl); intro K hK) | ((with_reducible refine wpT_x1 ?_ ?_ ?_); (focus exact wanted_yes _ _ _ rfl rfl rfl); (focus rfl); intro K hK) | ((with_reducible refine wpT_nil ?_); try dsimp only)
              | (go_at_call 38; refine (before_t ys[2 * i + 1 + 1] ys[i] _).mono ?_; rintro e w2 ⟨rfl, hb2⟩; have hw2 : Only w.heap.size (some g) w w2 := hw1.drew.trans ((Only.of_below hb2).mono hw1.size); have hv2 : Only wr.heap.size (some g) wr w2 := hv1.drew.trans ((Only.of_below hb2).mono hv1.size); have ho1 := hor1.drew.below hb2 (Nat.le_refl _); have f0 := ho1.frozen (i * 3); have f1 := ho1.frozen (i * 3 + 1); have f2 := ho1.frozen (i * 3 + 2); have y0 := ho1.frozen ((2 * i + 1 + 1) * 3); have y1 := ho1.frozen ((2 * i + 1 + 1) * 3 + 1); have y2 := ho1.frozen ((2 * i + 1 + 1) * 3 + 2); obtain ⟨i1, i2, i3⟩ := ho1.tm hlx; obtain ⟨k1, k2, k3⟩ := ho1.tm hlk; have hgs : g < w2.heap.size := (ho1.lt g rfl).2; have hgn : ¬ g = w2.heap.size := (by omega); have hgm : ¬ w2.heap.size = g := (by omega); dsimp only)
              | fail)
            obtain ⟨x0, x1, x2, x3, x4, x5, x6, x7, x8, x9⟩ := hbx.only hv2 hgw
            refine wp_region_T (fun _ => True) [] [] [] [0, 1, 2, 3] (by kernel_rfl) (by kernel_rfl) (by kernel_rfl) trivial ?_; simp only [pickL, List.getElem?_cons_succ, List.getElem?_cons_zero]
            go_wp2_with (first
              | ((with_reducible refine wpT_q0 ?_ ?_ ?_ ?_); (focus rfl); (focus rfl); (focus rfl); intro K hK) | ((with_reducible refine wpT_x0 ?_ ?_ ?_); (focus rfl); (focus rfl); intro K hK) | ((with_reducible refine wpT_noL ?_ ?_); (focus (first | exact wanted_no _ _ _ rfl rfl rfl | exact wanted_un _ _ _ rfl rfl rfl)); simp only [setO, List.set_cons_succ, List.set_cons_zero]) | ((with_reducible refine wpT_q1 ?_ ?_ ?_ ?_); (focus exact wanted_yes _ _ _ rfl rfl rfl); (focus rfl); (focus rfl); intro K hK) | ((with_reducible refine wpT_x1 ?_ ?_ ?_); (focus exact wanted_yes _ _ _ rfl rfl rfl); (focus rfl); intro K hK) | ((with_reducible refine wpT_nil ?_); try dsimp only)
              | fail)
            refine bodyPost_ret (v := .tuple #[.slice (some ⟨g, 0, none⟩) n c, .agg #[.int .i64 xs[0].1, .int .i64 xs[0].2.1, .int .i64 xs[0].2.2]]) (by simp [results, Try.results47, go_sem, x1, x2, x3]) rfl ⟨rfl, ?_, ?_⟩
            · rw [← he.out, sinkAt_stop hl1 hk.out e2]
              exact (ho1.box3 (fun k hk => by cases hk; omega) _ _ _).drew
            · exact (hw2.box3 _ _ _).drew
          · go_wp2
            refine wp_region_T (fun _ => True) [] [] [] [0, 1, 2, 3, 4, 5, 6, 7, 8, 9, 10, 11, 12, 13, 14, 15] (by kernel_rfl) (by kernel_rfl) (by kernel_rfl) trivial ?_; simp only [pickL, List.getElem?_cons_succ, List.getElem?_cons_zero]
            go_wp2_with (first
              | ((with_reducible refine wpT_q0 ?_ ?_ ?_ ?_); (focus rfl); (focus rfl); (focus rfl); intro K hK) | ((with_reducible refine wpT_x0 ?_ ?_ ?_); (focus rfl); (focus rfl); intro K hK) | ((with_reducible refine wpT_noL ?_ ?_); (focus (first | exact wanted_no _ _ _ rfl rfl rfl | exact wanted_un _ _ _ rfl rfl rfl)); simp only [setO, List.set_cons_succ, List.set_cons_zero]) | ((with_reducible refine wpT_q1 ?_ ?_ ?_ ?_); (focus exact wanted_yes _ _ _ rfl rfl rfl); (focus rfl); (focus rfl); intro K hK) | ((with_reducible refine wpT_x1 ?_ ?_ ?_); (focus exact wanted_yes _ _ _ rfl rfl rfl); (focus rfl); intro K hK) | ((with_reducible refine wpT_nil ?_); try dsimp only)
              | (go_at_call 38; refine (before_t ys[2 * i + 1 + 1] ys[2 * i + 1] _).mono ?_; rintro e w1 ⟨rfl, hb1⟩; have hw1 : Only w.heap.size (some g) w w1 := hon.drew.trans ((Only.of_below hb1).mono hon.size); have hv1 : Only wr.heap.size (some g) wr w1 := (Only.refl _ _ _).drew.trans (Only.of_below hb1); have hor1 := hor.drew.below hb1 (Nat.le_refl _); dsimp only)
              | fail)
            obtain ⟨i1, i2, i3⟩ := hor1.tm hlx
            obtain ⟨k1, k2, k3⟩ := hor1.tm hlk
            refine wp_region_T (fun _ => True) [] [] [] [0, 1, 2, 3, 4, 5, 6, 7, 8, 9] (by kernel_rfl) (by kernel_rfl) (by kernel_rfl) trivial ?_; simp only [pickL, List.getElem?_cons_succ, List.getElem?_cons_zero]
            go_wp2_with (first
              | ((with_reducible refine wpT_q0 ?_ ?_ ?_ ?_); (focus rfl); (focus rfl); (focus rfl); intro K hK) | ((with_reducible refine wpT_x0 ?_ ?_ ?_); (focus rfl); (focus rfl); intro K hK) | ((with_reducible refine wpT_noL ?_ ?_); (focus (first | exact wanted_no _ _ _ rfl rfl rfl | exact wanted_un _ _ _ rfl rfl rfl)); simp only [setO, List.set_cons_succ, List.set_cons_zero]) | ((with_reducible refine wpT_q1 ?_ ?_ ?_ ?_); (focus exact wanted_yes _ _ _ rfl rfl rfl); (focus rfl); (focus rfl); intro K hK) | ((with_reducible refine wpT_x1 ?_ ?_ ?_); (focus exact wanted_yes _ _ _ rfl rfl rfl); (focus rfl); intro K hK) | ((with_reducible refine wpT_nil ?_); try dsimp only)
              | (go_at_call 38; refine (before_t ys[2 * i + 1 + 1] ys[i] _).mono ?_; rintro e w2 ⟨rfl, hb2⟩; have hw2 : Only w.heap.size (some g) w w2 := hw1.drew.trans ((Only.of_below hb2).mono hw1.size); have hv2 : Only wr.heap.size (some g) wr w2 := hv1.drew.trans ((Only.of_below hb2).mono hv1.size); have ho1 := hor1.drew.below hb2 (Nat.le_refl _); have f0 := ho1.frozen (i * 3); have f1 := ho1.frozen (i * 3 + 1); have f2 := ho1.frozen (i * 3 + 2); have y0 := ho1.frozen ((2 * i + 1 + 1) * 3); have y1 := ho1.frozen ((2 * i + 1 + 1) * 3 + 1); have y2 := ho1.frozen ((2 * i + 1 + 1) * 3 + 2); obtain ⟨i1, i2, i3⟩ := ho1.tm hlx; obtain ⟨k1, k2, k3⟩ := ho1.tm hlk; have hgs : g < w2.heap.size := (ho1.lt g rfl).2; have hgn : ¬ g = w2.heap.size := (by omega); have hgm : ¬ w2.heap.size = g := (by omega); dsimp only)
              | fail)
            have k9 := ho1.tm hlk
            refine wp_region_T (fun _ => True) [] [] [] [0, 1, 2, 3, 4, 5, 6, 7, 8, 9, 10, 11, 12, 13, 14, 15] (by kernel_rfl) (by kernel_rfl) (by kernel_rfl) trivial ?_; simp only [pickL, List.getElem?_cons_succ, List.getElem?_cons_zero]
            go_wp2_with (first
              | ((with_reducible refine wpT_q0 ?_ ?_ ?_ ?_); (focus rfl); (focus rfl); (focus rfl); intro K hK) | ((with_reducible refine wpT_x0 ?_ ?_ ?_); (focus rfl); (focus rfl); intro K hK) | ((with_reducible refine wpT_noL ?_ ?_); (focus (first | exact wanted_no _ _ _ rfl rfl rfl | exact wanted_un _ _ _ rfl rfl rfl)); simp only [setO, List.set_cons_succ, List.set_cons_zero]) | ((with_reducible refine wpT_q1 ?_ ?_ ?_ ?_); (focus exact wanted_yes _ _ _ rfl rfl rfl); (focus rfl); (focus rfl); intro K hK) | ((with_reducible refine wpT_x1 ?_ ?_ ?_); (focus exact wanted_yes _ _ _ rfl rfl rfl); (focus rfl); intro K hK) | ((with_reducible refine wpT_nil ?_); try dsimp only)
              | fail)
            go_roundw
            case rel =>
              refine ⟨2 * i + 1 + 1, swap ys i (2 * i + 1 + 1) hlx hlk, by omega, by go_num, hide (by rw [swap_len]; exact hm.out), ?_, hide ((sinkAt_step hl1 hk.out e2).symm.trans he.out), ?_, ?_⟩
              · exact (ho1.swapTm (by omega) (by omega) hlx hlk).drew
              · exact ((hw2.putTm ys[2 * i + 1 + 1]).putTm ys[i]).drew
              · exact hbx.only ((hv2.putTm ys[2 * i + 1 + 1]).putTm ys[i]).drew hgw
            case measure => simp [intOf]; omega
      · have d2 : decide (2 * (i : Int) + 1 + 1 < (n : Int)) = false := by simp; omega
        have hl2 : ¬ 2 * i + 1 + 1 < ys.length := by have := hm.out; omega
        have hk : Hid (2 * i + 1 = kid i ys) := hide (by simp [kid, hl2])
        have hlk : 2 * i + 1 < ys.length := by omega
        cases e2 : ltT ys[2 * i + 1] ys[i]
        · go_wp2
          refine wp_region_T (fun _ => True) [] [] [] [0, 1, 2, 3, 4, 5, 6, 7, 8, 9, 10, 11, 12, 13, 14, 15] (by kernel_rfl) (by kernel_rfl) (by kernel_rfl) trivial ?_; simp only [pickL, List.getElem?_cons_succ, List.getElem?_cons_zero]
          have hw1 : Only w.heap.size (some g) w wr.drew := hon.drew
          have hv1 : Only wr.heap.size (some g) wr wr.drew := (Only.refl _ _ _).drew
          have hor1 := hor.drew
          go_wp2_with (first
            | ((with_reducible refine wpT_q0 ?_ ?_ ?_ ?_); (focus rfl); (focus rfl); (focus rfl); intro K hK) | ((with_reducible refine wpT_x0 ?_ ?_ ?_); (focus rfl); (focus rfl); intro K hK) | ((with_reducible refine wpT_noL ?_ ?_); (focus (first | exact wanted_no _ _ _ rfl rfl rfl | exact wanted_un _ _ _ rfl rfl rfl)); simp only [setO, List.set_cons_succ, List.set_cons_zero]) | ((with_reducible refine wpT_q1 ?_ ?_ ?_ ?_); (focus exact wanted_yes _ _ _ rfl rfl rfl); (focus rfl); (focus rfl); intro K hK) | ((with_reducible refine wpT_x1 ?_ ?_ ?_); (focus exact wanted_yes _ _ _ rfl rfl rfl); (focus rfl); intro K hK) | ((with_reducible refine wpT_nil ?_); try dsimp only)
            | fail)
          obtain ⟨i1, i2, i3⟩ := hor1.tm hlx
          obtain ⟨k1, k2, k3⟩ := hor1.tm hlk
          refine wp_region_T (fun _ => True) [] [] [] [0, 1, 2, 3, 4, 5, 6, 7, 8, 9] (by kernel_rfl) (by kernel_rfl) (by kernel_rfl) trivial ?_; simp only [pickL, List.getElem?_cons_succ, List.getElem?_cons_zero]
          go_wp2_with (first
            | ((with_reducible refine wpT_q0 ?_ ?_ ?_ ?_); (focus rfl); (focus rfl); (focus rfl); intro K hK) | ((with_reducible refine wpT_x0 ?_ ?_ ?_); (focus rfl); (focus rfl); intro K hK) | ((with_reducible refine wpT_noL ?_ ?_); (focus (first | exact wanted_no _ _ _ rfl rfl rfl | exact wanted_un _ _ _ rfl rfl rfl)); simp only [setO, List.set_cons_succ, List.set_cons_zero]) | ((with_reducible refine wpT_q1 ?_ ?_ ?_ ?_); (focus exact wanted_yes _ _ _ rfl rfl rfl); (focus rfl); (focus rfl); intro K hK) | ((with_reducible refine wpT_x1 ?_ ?_ ?_); (focus exact wanted_yes _ _ _ rfl rfl rfl); (focus rfl); intro K hK) | ((with_reducible refine wpT_nil ?_); try dsimp only)
            | (go_at_call 38; refine (before_t ys[2 * i + 1] ys[i] _).mono ?_; rintro e w2 ⟨rfl, hb2⟩; have hw2 : Only w.heap.size (some g) w w2 := hw1.drew.trans ((Only.of_below hb2).mono hw1.size); have hv2 : Only wr.heap.size (some g) wr w2 := hv1.drew.trans ((Only.of_below hb2).mono hv1.size); have ho1 := hor1.drew.below hb2 (Nat.le_refl _); have f0 := ho1.frozen (i * 3); have f1 := ho1.frozen (i * 3 + 1); have f2 := ho1.frozen (i * 3 + 2); have y0 := ho1.frozen ((2 * i + 1) * 3); have y1 := ho1.frozen ((2 * i + 1) * 3 + 1); have y2 := ho1.frozen ((2 * i + 1) * 3 + 2); obtain ⟨i1, i2, i3⟩ := ho1.tm hlx; obtain ⟨k1, k2, k3⟩ := ho1.tm hlk; have hgs : g < w2.heap.size := (ho1.lt g rfl).2; have hgn : ¬ g = w2.heap.size := (by omega); have hgm : ¬ w2.heap.size = g := (by omega); dsimp only)
            | fail)
          obtain ⟨x0, x1, x2, x3, x4, x5, x6, x7, x8, x9⟩ := hbx.only hv2 hgw
          refine wp_region_T (fun _ => True) [] [] [] [0, 1, 2, 3] (by kernel_rfl) (by kernel_rfl) (by kernel_rfl) trivial ?_; simp only [pickL, List.getElem?_cons_succ, List.getElem?_cons_zero]
          go_wp2_with (first
            | ((with_reducible refine wpT_q0 ?_ ?_ ?_ ?_); (focus rfl); (focus rfl); (focus rfl); intro K hK) | ((with_reducible refine wpT_x0 ?_ ?_ ?_); (focus rfl); (focus rfl); intro K hK) | ((with_reducible refine wpT_noL ?_ ?_); (focus (first | exact wanted_no _ _ _ rfl rfl rfl | exact wanted_un _ _ _ rfl rfl rfl)); simp only [setO, List.set_cons_succ, List.set_cons_zero]) | ((with_reducible refine wpT_q1 ?_ ?_ ?_ ?_); (focus exact wanted_yes _ _ _ rfl rfl rfl); (focus rfl); (focus rfl); intro K hK) | ((with_reducible refine wpT_x1 ?_ ?_ ?_); (focus exact wanted_yes _ _ _ rfl rfl rfl); (focus rfl); intro K hK) | ((with_reducible refine wpT_nil ?_); try dsimp only)
            | fail)
          refine bodyPost_ret (v := .tuple #[.slice (some ⟨g, 0, none⟩) n c, .agg #[.int .i64 xs[0].1, .int .i64 xs[0].2.1, .int .i64 xs[0].2.2]]) (by simp [results, Try.results47, go_sem, x1, x2, x3]) rfl ⟨rfl, ?_, ?_⟩
          · rw [← he.out, sinkAt_stop hl1 hk.out e2]
            exact (ho1.box3 (fun k hk => by cases hk; omega) _ _ _).drew
          · exact (hw2.box3 _ _ _).drew
        · go_wp2
          refine wp_region_T (fun _ => True) [] [] [] [0, 1, 2, 3, 4, 5, 6, 7, 8, 9, 10, 11, 12, 13, 14, 15] (by kernel_rfl) (by kernel_rfl) (by kernel_rfl) trivial ?_; simp only [pickL, List.getElem?_cons_succ, List.getElem?_cons_zero]
          have hw1 : Only w.heap.size (some g) w wr.drew := hon.drew
          have hv1 : Only wr.heap.size (some g) wr wr.drew := (Only.refl _ _ _).drew
          have hor1 := hor.drew
          go_wp2_with (first
            | ((with_reducible refine wpT_q0 ?_ ?_ ?_ ?_); (focus rfl); (focus rfl); (focus rfl); intro K hK) | ((with_reducible refine wpT_x0 ?_ ?_ ?_); (focus rfl); (focus rfl); intro K hK) | ((with_reducible refine wpT_noL ?_ ?_); (focus (first | exact wanted_no _ _ _ rfl rfl rfl | exact wanted_un _ _ _ rfl rfl rfl)); simp only [setO, List.set_cons_succ, List.set_cons_zero]) | ((with_reducible refine wpT_q1 ?_ ?_ ?_ ?_); (focus exact wanted_yes _ _ _ rfl rfl rfl); (focus rfl); (focus rfl); intro K hK) | ((with_reducible refine wpT_x1 ?_ ?_ ?_); (focus exact wanted_yes _ _ _ rfl rfl rfl); (focus rfl); intro K hK) | ((with_reducible refine wpT_nil ?_); try dsimp only)
            | fail)
          obtain ⟨i1, i2, i3⟩ := hor1.tm hlx
          obtain ⟨k1, k2, k3⟩ := hor1.tm hlk
          refine wp_region_T (fun _ => True) [] [] [] [0, 1, 2, 3, 4, 5, 6, 7, 8, 9] (by kernel_rfl) (by kernel_rfl) (by kernel_rfl) trivial ?_; simp only [pickL, List.getElem?_cons_succ, List.getElem?_cons_zero]
          go_wp2_with (first
            | ((with_reducible refine wpT_q0 ?_ ?_ ?_ ?_); (focus rfl); (focus rfl); (focus rfl); intro K hK) | ((with_reducible refine wpT_x0 ?_ ?_ ?_); (focus rfl); (focus rfl); intro K hK) | ((with_reducible refine wpT_noL ?_ ?_); (focus (first | exact wanted_no _ _ _ rfl rfl rfl | exact wanted_un _ _ _ rfl rfl rfl)); simp only [setO, List.set_cons_succ, List.set_cons_zero]) | ((with_reducible refine wpT_q1 ?_ ?_ ?_ ?_); (focus exact wanted_yes _ _ _ rfl rfl rfl); (focus rfl); (focus rfl); intro K hK) | ((with_reducible refine wpT_x1 ?_ ?_ ?_); (focus exact wanted_yes _ _ _ rfl rfl rfl); (focus rfl); intro K hK) | ((with_reducible refine wpT_nil ?_); try dsimp only)
            | (go_at_call 38; refine (before_t ys[2 * i + 1] ys[i] _).mono ?_; rintro e w2 ⟨rfl, hb2⟩; have hw2 : Only w.heap.size (some g) w w2 := hw1.drew.trans ((Only.of_below hb2).mono hw1.size); have hv2 : Only wr.heap.size (some g) wr w2 := hv1.drew.trans ((Only.of_below hb2).mono hv1.size); have ho1 := hor1.drew.below hb2 (Nat.le_refl _); have f0 := ho1.frozen (i * 3); have f1 := ho1.frozen (i * 3 + 1); have f2 := ho1.frozen (i * 3 + 2); have y0 := ho1.frozen ((2 * i + 1) * 3); have y1 := ho1.frozen ((2 * i + 1) * 3 + 1); have y2 := ho1.frozen ((2 * i + 1) * 3 + 2); obtain ⟨i1, i2, i3⟩ := ho1.tm hlx; obtain ⟨k1, k2, k3⟩ := ho1.tm hlk; have hgs : g < w2.heap.size := (ho1.lt g rfl).2; have hgn : ¬ g = w2.heap.size := (by omega); have hgm : ¬ w2.heap.size = g := (by omega); dsimp only)
            | fail)
          have k9 := ho1.tm hlk
          refine wp_region_T (fun _ => True) [] [] [] [0, 1, 2, 3, 4, 5, 6, 7, 8, 9, 10, 11, 12, 13, 14, 15] (by kernel_rfl) (by kernel_rfl) (by kernel_rfl) trivial ?_; simp only [pickL, List.getElem?_cons_succ, List.getElem?_cons_zero]
          go_wp2_with (first
            | ((with_reducible refine wpT_q0 ?_ ?_ ?_ ?_); (focus rfl); (focus rfl); (focus rfl); intro K hK) | ((with_reducible refine wpT_x0 ?_ ?_ ?_); (focus rfl); (focus rfl); intro K hK) | ((with_reducible refine wpT_noL ?_ ?_); (focus (first | exact wanted_no _ _ _ rfl rfl rfl | exact wanted_un _ _ _ rfl rfl rfl)); simp only [setO, List.set_cons_succ, List.set_cons_zero]) | ((with_reducible refine wpT_q1 ?_ ?_ ?_ ?_); (focus exact wanted_yes _ _ _ rfl rfl rfl); (focus rfl); (focus rfl); intro K hK) | ((with_reducible refine wpT_x1 ?_ ?_ ?_); (focus exact wanted_yes _ _ _ rfl rfl rfl); (focus rfl); intro K hK) | ((with_reducible refine wpT_nil ?_); try dsimp only)
            | fail)
          go_roundw
          case rel =>
            refine ⟨2 * i + 1, swap ys i (2 * i + 1) hlx hlk, by omega, by go_num, hide (by rw [swap_len]; exact hm.out), ?_, hide ((sinkAt_step hl1 hk.out e2).symm.trans he.out), ?_, ?_⟩
            · exact (ho1.swapTm (by omega) (by omega) hlx hlk).drew
            · exact ((hw2.putTm ys[2 * i + 1]).putTm ys[i]).drew
            · exact hbx.only ((hv2.putTm ys[2 * i + 1]).putTm ys[i]).drew hgw
          case measure => simp [intOf]; omega
    · have d1 : decide (2 * (i : Int) + 1 < (n : Int)) = false := by simp; omega
      have hl1 : ¬ 2 * i + 1 < ys.length := by have := hm.out; omega
      obtain ⟨x0, x1, x2, x3, x4, x5, x6, x7, x8, x9⟩ := hbx
      go_wp2
      refine wp_region_T (fun _ => True) [] [] [] [0, 1, 2, 3] (by kernel_rfl) (by kernel_rfl) (by kernel_rfl) trivial ?_; simp only [pickL, List.getElem?_cons_succ, List.getElem?_cons_zero]
      go_wp2_with (first
        | ((with_reducible refine wpT_q0 ?_ ?_ ?_ ?_); (focus rfl); (focus rfl); (focus rfl); intro K hK) | ((with_reducible refine wpT_x0 ?_ ?_ ?_); (focus rfl); (focus rfl); intro K hK) | ((with_reducible refine wpT_noL ?_ ?_); (focus (first | exact wanted_no _ _ _ rfl rfl rfl | exact wanted_un _ _ _ rfl rfl rfl)); simp only [setO, List.set_cons_succ, List.set_cons_zero]) | ((with_reducible refine wpT_q1 ?_ ?_ ?_ ?_); (focus exact wanted_yes _ _ _ rfl rfl rfl); (focus rfl); (focus rfl); intro K hK) | ((with_reducible refine wpT_x1 ?_ ?_ ?_); (focus exact wanted_yes _ _ _ rfl rfl rfl); (focus rfl); intro K hK) | ((with_reducible refine wpT_nil ?_); try dsimp only)
        | fail)
      refine bodyPost_ret (v := .tuple #[.slice (some ⟨g, 0, none⟩) n c, .agg #[.int .i64 xs[0].1, .int .i64 xs[0].2.1, .int .i64 xs[0].2.2]]) (by simp [results, Try.results47, go_sem, x1, x2, x3]) rfl ⟨rfl, ?_, ?_⟩
      · rw [← he.out, sinkAt_end hl1]
        exact (hor.box3 (fun k hk => by cases hk; omega) _ _ _).drew
      · exact (hon.box3 _ _ _).drew
end Go.Proofs.Ytaklfalkpkifmaa
