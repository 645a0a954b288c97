/-
  What the queue's laws draw: 'l20Timed', 'l20Queue'.
-/
import Derived.Test.YtaklfalkpkifmaaDR
import Derived.Test.YtaklfalkpkifmaaQW
namespace Go.Proofs.Ytaklfalkpkifmaa
open Go.RowKit Rg
set_option linter.unusedVariables false

/-- Cells of a box of three. -/
def Box3 (w : World) (b : Nat) (x y z : Int) : Prop := w.cell? ⟨b, 0, none⟩ = some (.int .i64 x) ∧ w.cell? ⟨b, 1, none⟩ = some (.int .i64 y) ∧ w.cell? ⟨b, 2, none⟩ = some (.int .i64 z) ∧ ∀ j, w.frozen? ⟨b, j, none⟩ = false
theorem frozen_block {w w' : World} {b j : Nat} (h : w'.heap[b]? = w.heap[b]?) : w'.frozen? ⟨b, j, none⟩ = w.frozen? ⟨b, j, none⟩ := by simp [World.frozen?, h]
theorem Box3.keep {w w' : World} {b : Nat} {x y z : Int} (h : Box3 w b x y z) (hb : w'.heap[b]? = w.heap[b]?) : Box3 w' b x y z :=
  ⟨(World.cell?_of_block hb).trans h.1, (World.cell?_of_block hb).trans h.2.1, (World.cell?_of_block hb).trans h.2.2.1, fun j => (frozen_block hb).trans (h.2.2.2 j)⟩
theorem Box3.made (w : World) (x y z : Int) (e : TypeId) : Box3 (w.alloc (.cells #[.int .i64 x, .int .i64 y, .int .i64 z] e)) w.heap.size x y z :=
  ⟨by simp, by simp, by simp, fun j => by simp only [World.frozen?, heap_alloc_new]; simp⟩
theorem Box3.lt {w : World} {b : Nat} {x y z : Int} (h : Box3 w b x y z) : b < w.heap.size := lt_of_cell h.1
theorem Box3.only {w w' : World} {b : Nat} {x y z : Int} {g : Option Nat} (h : Box3 w b x y z) (ho : Only w.heap.size g w w') (hne : g ≠ some b) : Box3 w' b x y z := h.keep (ho.block b h.lt hne)
theorem Box3.below {w w' : World} {b : Nat} {x y z : Int} (h : Box3 w b x y z) (ho : Below w.heap.size w w') : Box3 w' b x y z := h.keep (ho.block b h.lt)

theorem l20Timed_c (g P : Nat) (w : World) (hr : Rd w g P) (hP : P ≤ 100000) :
    Calls Try.prog 42 #[.pointer (some ⟨g, 0, none⟩)] w fun e w' => ∃ t : Tm, e = .returned (.agg #[.int .i64 t.1, .int .i64 t.2.1, .int .i64 t.2.2]) ∧ Rd w' g (P + 5) ∧ Only w.heap.size (some g) w w' := by
  have hg := hr.lt
  have hb0 : Below w.heap.size w (w.alloc (.cells #[.int .i64 0, .int .i64 0, .int .i64 0] 31)) := (Below.refl _ _).alloc (Nat.le_refl _) _
  have hx0 := Box3.made w 0 0 0 31
  have hr0 := hr.keep hb0
  have hgb : some g ≠ some w.heap.size := by intro h; injection h with h; omega
  have ho0 : Only w.heap.size (some g) w (w.alloc (.cells #[.int .i64 0, .int .i64 0, .int .i64 0] 31)) := Only.of_below hb0
  go_enter Try.func42, Try.ntmps42
  go_wp2_with fail
  refine (pick_c g P 9 _ hr0 (by omega) (by omega)).mono ?_
  rintro e w1 ⟨k1, rfl, hk1, hr1, h1⟩
  have hx1 := hx0.only h1 hgb
  have ho1 := ho0.trans (h1.mono hb0.size)
  go_wp2_with fail
  refine (pick_c g _ 4 _ hr1 (by omega) (by omega)).mono ?_
  rintro e w2 ⟨k2, rfl, hk2, hr2, h2⟩
  have hx2 := hx1.only h2 hgb
  have ho2 := ho1.trans (h2.mono ho1.size)
  go_wp2_with fail
  refine (pick_c g _ 3 _ hr2 (by omega) (by omega)).mono ?_
  rintro e w3 ⟨k3, rfl, hk3, hr3, h3⟩
  have hx3 := hx2.only h3 hgb
  have ho3 := ho2.trans (h3.mono ho2.size)
  have hb3 := (Below.refl w3.heap.size w3).alloc (Nat.le_refl _) (.cells #[.int .i64 (k1 : Int), .int .i64 (k2 : Int), .int .i64 (k3 : Int)] 31)
  have hr3b := hr3.keep hb3
  have hx3b := hx3.below hb3
  have hy3 := Box3.made w3 k1 k2 k3 31
  have ho3b := ho3.trans ((Only.of_below hb3).mono ho3.size)
  have hgy : some g ≠ some w3.heap.size := by intro h; injection h with h; have := hr3.lt; omega
  go_wp2_with fail
  refine (pick_c g _ 14 _ hr3b (by omega) (by omega)).mono ?_
  rintro e w4 ⟨k4, rfl, hk4, hr4, h4⟩
  have hx4 := hx3b.only h4 hgb
  have hy4 := hy3.only h4 hgy
  have ho4 := ho3b.trans (h4.mono ho3b.size)
  have hwy : w.heap.size ≤ w3.heap.size := ho3.size
  have hwy' : w.heap.size < w3.heap.size := by have := hx3.lt; omega
  clear hr0 hr1 hr2 hr3 hr3b h1 h2 h3 h4 hx0 hx1 hx2 hx3 hx3b hy3 ho0 ho1 ho2 ho3 ho3b hb0 hb3
  by_cases hk : k4 = 0
  · have d1 : ((k4 : Int) == 0) = true := by simp [hk]
    have hb5 := (Below.refl w4.heap.size w4).alloc (Nat.le_refl _) (.cells #[.int .i64 (-1), .int .i64 1000, .int .i64 999] 3)
    have hs5 := sl_arr encI_len w4 #[.int .i64 (-1), .int .i64 1000, .int .i64 999] 3 [-1, 1000, 999] rfl
    have hr5 := hr4.keep hb5
    have hx5 := hx4.below hb5
    have hy5 := hy4.below hb5
    have ho5 := ho4.trans ((Only.of_below hb5).mono ho4.size)
    go_wp2_with fail
    refine (one_c g _ _ _ _ 3 3 [-1, 1000, 999] _ hr5 (by omega) rfl (by omega) (by omega) hs5 hr4.lt (by simp)).mono ?_
    rintro e w6 ⟨x, hx, rfl, hr6, h6⟩
    have hx6 := hx5.only h6 hgb
    have hy6 := hy5.only h6 hgy
    have ho6 := ho5.trans (h6.mono ho5.size)
    obtain ⟨a0, a1, a2, af⟩ := hx6
    obtain ⟨c0, c1, c2, cf⟩ := hy6
    have af0 := af 0
    have af1 := af 1
    have af2 := af 2
    have cf0 := cf 0
    clear hr4 hr5 hx4 hx5 hy4 hy5 ho4 ho5 h6 hb5 hs5
    have hgw : g + 1 ≤ w3.heap.size := by omega
    have hgw' : g + 1 ≤ w.heap.size := hg
    go_wp2
    refine bodyPost_ret (v := .agg #[.int .i64 x, .int .i64 (k2 : Int), .int .i64 (k3 : Int)]) (by simp [results, Try.results42, go_sem, a0, a1, a2]) rfl ⟨(x, (k2 : Int), (k3 : Int)), rfl, ?_, ?_⟩
    · exact (hr6.below (((((Below.refl (g + 1) w6).setCell (by simpa using hgw) _).setCell (by simpa using hgw') _).setCell (by simpa using hgw') _).setCell (by simpa using hgw') _) (by omega)).mono (by omega)
    · exact ho6.trans (Only.of_below (((((Below.refl w.heap.size w6).setCell (by simpa using hwy) _).setCell (by simp) _).setCell (by simp) _).setCell (by simp) _))
  · have d1 : ((k4 : Int) == 0) = false := by simpa using hk
    obtain ⟨a0, a1, a2, af⟩ := hx4
    obtain ⟨c0, c1, c2, cf⟩ := hy4
    have af0 := af 0
    have af1 := af 1
    have af2 := af 2
    have hgw' : g + 1 ≤ w.heap.size := hg
    go_wp2
    refine bodyPost_ret (v := .agg #[.int .i64 (k1 : Int), .int .i64 (k2 : Int), .int .i64 (k3 : Int)]) (by simp [results, Try.results42, go_sem, a0, a1, a2]) rfl ⟨((k1 : Int), (k2 : Int), (k3 : Int)), rfl, ?_, ?_⟩
    · exact (hr4.below ((((Below.refl (g + 1) w4).setCell (by simpa using hgw') _).setCell (by simpa using hgw') _).setCell (by simpa using hgw') _) (by omega)).mono (by omega)
    · exact ho4.trans (Only.of_below ((((Below.refl w.heap.size w4).setCell (by simp) _).setCell (by simp) _).setCell (by simp) _))

set_option maxHeartbeats 2000000 in
theorem l20Queue_c (g P : Nat) (w : World) (hr : Rd w g P) (hP : P ≤ 10000) :
    Calls Try.prog 40 #[.pointer (some ⟨g, 0, none⟩)] w fun e w' => ∃ (v : Value) (q : List Tm), e = .returned v ∧ q.length ≤ 25 ∧ Own encT 3 31 w' w.heap.size v q ∧ Rd w' g (P + 200) ∧ Only w.heap.size (some g) w w' := by
  have hg := hr.lt
  have hb0 : Below w.heap.size w (w.alloc (.cells #[] 31)) := (Below.refl _ _).alloc (Nat.le_refl _) _
  have hq0 := own_empty encT 3 31 w
  generalize hw0 : w.alloc (.cells #[] 31) = w0 at *
  have hb1 := (Below.refl w0.heap.size w0).alloc (Nat.le_refl _) (.cells #[.int .i64 0, .int .i64 3, .int .i64 8, .int .i64 25] 3)
  have hs1 := sl_arr encI_len w0 #[.int .i64 0, .int .i64 3, .int .i64 8, .int .i64 25] 3 [0, 3, 8, 25] rfl
  have hr1 := (hr.keep hb0).keep hb1
  have hq1 := hq0.below hb1 (Nat.le_refl _)
  have ho1 : Only w.heap.size (some g) w (w0.alloc (.cells #[.int .i64 0, .int .i64 3, .int .i64 8, .int .i64 25] 3)) := (Only.of_below hb0).trans ((Only.of_below hb1).mono hb0.size)
  have hgw0 : g < w0.heap.size := by have := hb0.size; omega
  go_enter Try.func40, Try.ntmps40
  go_wp2_with fail
  refine (one_c g _ _ _ _ 4 4 [0, 3, 8, 25] _ hr1 (by omega) rfl (by omega) (by omega) hs1 hgw0 (by simp)).mono ?_
  rintro e w2 ⟨x, hx, rfl, hr2, h2⟩
  have hq2 := hq1.only h2 (Nat.le_refl _) (fun b hb e => by injection e with e; have := (hq1.lt b hb).1; omega)
  have ho2 := ho1.trans (h2.mono ho1.size)
  obtain ⟨N, rfl, hN⟩ : ∃ N : Nat, x = (N : Int) ∧ N ≤ 25 := by
    simp at hx
    rcases hx with rfl | rfl | rfl | rfl
    · exact ⟨0, rfl, by omega⟩
    · exact ⟨3, rfl, by omega⟩
    · exact ⟨8, rfl, by omega⟩
    · exact ⟨25, rfl, by omega⟩
  clear hx hr1 hq1 ho1 hs1 hb1 hb0 hq0 hw0 hr
  go_wp2_with fail
  go_loopw [3, 4, 5, 6] (fun qv mv _ _ wr => ∃ (m : Nat) (q : List Tm), mv = .int .i64 (m : Int) ∧ m ≤ 25 ∧ Hid (q.length + m ≤ 25) ∧ Own encT 3 31 wr w.heap.size qv q ∧ Rd wr g (P + 1 + 5 * (25 - m)) ∧ Only w.heap.size (some g) w wr) (fun _ mv _ _ _ => (intOf mv).toNat)
  case atStart => exact ⟨N, [], rfl, hN, hide (by simpa using hN), hq2, hr2.mono (by omega), ho2⟩
  case round =>
    obtain ⟨m, q, rfl, hm, hql, hoq, hrr, hor⟩ := hrel
    obtain ⟨Aq, cq, rfl, hcq1, hcq2, hsq⟩ := hoq.sl encT_len
    have hqb : q.length ≤ 25 := by have := hql.out; omega
    have hne : ∀ b, (Value.slice Aq q.length cq).ownBlock = some b → some g ≠ some b := fun b hb e => by injection e with e; have := (hoq.lt b hb).1; omega
    by_cases hm0 : 0 < m
    · have d1 : decide (0 < (m : Int)) = true := by simpa using hm0
      go_wp2_with fail
      refine (l20Timed_c g _ wr hrr (by omega)).mono ?_
      rintro e w3 ⟨t, rfl, hr3, h3⟩
      have hq3 := hoq.only h3 (Nat.le_refl _) hne
      have ho3 := hor.trans (h3.mono hor.size)
      go_wp2_with fail
      refine (specQueueAdd_c Aq q.length cq _ _ q t w3 rfl (by omega) (hq3.slAt encT_len).2.2 (Nat.le_refl _)).mono ?_
      rintro e w4 ⟨v4, rfl, hq4, h4⟩
      have hr4 := hr3.keep h4
      have ho4 := ho3.trans ((Only.of_below h4).mono ho3.size)
      have hq4' := hq4.mono ho3.size
      have hq34 := hq3.below h4 (Nat.le_refl _)
      cases e1 : (addL q t).2
      · go_wp2
        go_roundw
        case rel => exact ⟨m - 1, q, by go_num, by omega, hide (by have := hql.out; omega), hq34, hr4.mono (by omega), ho4⟩
        case measure => simp [intOf]; omega
      · have hl := hide (addL_len1 e1)
        go_wp2
        go_roundw
        case rel => exact ⟨m - 1, (addL q t).1, by go_num, by omega, hide (by have := hql.out; have := hl.out; omega), hq4', hr4.mono (by omega), ho4⟩
        case measure => simp [intOf]; omega
    · obtain rfl : m = 0 := by omega
      by_cases h1 : 1 < q.length
      · have d2 : decide (1 < (q.length : Int)) = true := by simp; omega
        go_wp2_with fail
        refine (pick_c g _ 12 wr hrr (by omega) (by omega)).mono ?_
        rintro e w3 ⟨k, rfl, hk, hr3, h3⟩
        have hq3 := hoq.only h3 (Nat.le_refl _) hne
        have ho3 := hor.trans (h3.mono hor.size)
        clear hk h3
        by_cases hk0 : k = 0
        · have d3 : ((k : Int) == 0) = true := by simp [hk0]
          obtain ⟨b, rfl, hb1, hb2⟩ := hq3.addrAt (k := 0) (by omega)
          have hlx : q.length - 1 < q.length := by omega
          obtain ⟨a1, a2, a3⟩ := hq3.tm hlx
          have e9 : ((q.length : Int) - 1).toNat = q.length - 1 := by omega
          obtain ⟨u0, u1, u2, c0, c1, c2⟩ := hq3.tmAt (k := 0) (by omega)
          have f0 := hq3.frozen 0
          have f1 := hq3.frozen 1
          have f2 := hq3.frozen 2
          have hput := hide (hq3.put_ encT_len (i := 0) (by omega) q[q.length - 1])
          have hgb : g < b := by omega
          simp only [Nat.zero_mul, Nat.zero_add] at a1 a2 a3 c0 c1 c2
          generalize hq' : q.set 0 q[q.length - 1] = q' at hput
          have hql' : Hid (q.length = q'.length) := hide (by rw [← hq']; simp)
          clear hq'
          have hon' := hide (Only.put (g := b) (encT q[q.length - 1]) (w := w3) (j := 0) (Only.refl w3.heap.size (some b) w3))
          have hbb : Below w.heap.size w3 (putCells w3 b (0 * 3) (encT q[q.length - 1])) := below_putCells _ (Below.refl _ _) hb1
          have hgg : Below (g + 1) w3 (putCells w3 b (0 * 3) (encT q[q.length - 1])) := below_putCells _ (Below.refl _ _) hgb
          have hr5 := hide (hr3.below hgg (by omega))
          have ho5 := hide (ho3.trans (Only.of_below hbb))
          simp only [encT, putCells, Nat.zero_mul, Nat.zero_add, Nat.reduceAdd] at hput hr5 ho5
          obtain ⟨w5, hw5⟩ : ∃ w5, ((w3.setCell ⟨b, 0, none⟩ (.int .i64 q[q.length - 1].1)).setCell ⟨b, 1, none⟩ (.int .i64 q[q.length - 1].2.1)).setCell ⟨b, 2, none⟩ (.int .i64 q[q.length - 1].2.2) = w5 := ⟨_, rfl⟩
          rw [hw5] at hput hr5 ho5
          go_wp2_with (at_builtin; refine wpList_app encT_len (by omega) encT_one rfl _ _ 25 rfl 31 _ 24 Try.underlying25 info_T rfl w5.heap.size _ [] rfl (own_empty encT 3 _ w5) _ _ _ q' _ _ rfl hql'.out ((hput.out.slAt encT_len).2.2.below ((Below.refl _ w5).alloc (Nat.le_refl _) _) (Nat.le_refl _)) ?h2 ?h3 ?_)
          case h2 => simp [maxLen]; have := hql'.out; omega
          case h3 => simp
          intro vz wz hoz hgz hbz
          have hbz' : Below w5.heap.size w5 wz := ((Below.refl _ _).alloc (Nat.le_refl _) _).trans hbz
          go_wp2
          go_ret
          exact ⟨_, q', rfl, by have := hql'.out; omega, by simpa using hoz.mono ho5.out.size, (hr5.out.keep hbz').mono (by omega), ho5.out.trans ((Only.of_below hbz').mono ho5.out.size)⟩
        · have d3 : ((k : Int) == 0) = false := by simpa using hk0
          go_wp2_with (at_builtin; refine wpList_app encT_len (by omega) encT_one rfl _ _ 25 rfl 31 _ 24 Try.underlying25 info_T rfl w3.heap.size _ [] rfl (own_empty encT 3 _ w3) _ _ _ q _ _ rfl rfl (((hq3).slAt encT_len).2.2.below ((Below.refl _ w3).alloc (Nat.le_refl _) _) (Nat.le_refl _)) ?h2 ?h3 ?_)
          case h2 => simp [maxLen]; omega
          case h3 => simp
          intro vz wz hoz hgz hbz
          have hbz' : Below w3.heap.size w3 wz := ((Below.refl _ _).alloc (Nat.le_refl _) _).trans hbz
          go_wp2
          go_ret
          exact ⟨_, q, rfl, by omega, by simpa using hoz.mono (ho3).size, ((hr3).keep hbz').mono (by omega), (ho3).trans ((Only.of_below hbz').mono (ho3).size)⟩
      · have d2 : decide (1 < (q.length : Int)) = false := by simp; omega
        go_wp2_with (at_builtin; refine wpList_app encT_len (by omega) encT_one rfl _ _ 25 rfl 31 _ 24 Try.underlying25 info_T rfl wr.heap.size _ [] rfl (own_empty encT 3 _ wr) _ _ _ q _ _ rfl rfl (((hoq).slAt encT_len).2.2.below ((Below.refl _ wr).alloc (Nat.le_refl _) _) (Nat.le_refl _)) ?h2 ?h3 ?_)
        case h2 => simp [maxLen]; omega
        case h3 => simp
        intro vz wz hoz hgz hbz
        have hbz' : Below wr.heap.size wr wz := ((Below.refl _ _).alloc (Nat.le_refl _) _).trans hbz
        go_wp2
        go_ret
        exact ⟨_, q, rfl, by omega, by simpa using hoz.mono (hor).size, ((hrr).keep hbz').mono (by omega), (hor).trans ((Only.of_below hbz').mono (hor).size)⟩
end Go.Proofs.Ytaklfalkpkifmaa
