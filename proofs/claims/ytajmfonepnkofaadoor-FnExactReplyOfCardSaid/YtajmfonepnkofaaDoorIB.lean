/-
  'l2EntOk', 'l2Ok' of the reference, of any game. (Printed by gen_ib.py.)
  Conditions: none.
-/
import Derived.Test.YtajmfonepnkofaaDoorIA
namespace Go.Proofs.YtajmfonepnkofaaDoor
open Go.RowKit Rg
set_option linter.unusedVariables false
set_option linter.unusedSimpArgs false

theorem entOk_iff (t : EntT) : entOk t ↔ (inB t.1 1 4 = true ∧ inB t.2.1 0 3 = true ∧ inB t.2.2.1 0 3 = true ∧ inB t.2.2.2.1 0 3 = true ∧ inB t.2.2.2.2 0 20 = true) := by
  unfold entOk rng inB
  simp only [decide_eq_true_eq]
set_option maxRecDepth 100000 in
set_option maxHeartbeats 1000000 in
theorem l2EntOk_c (t : EntT) (w : World) : Calls Tryd.prog 47 #[.agg #[.int .i64 t.1, .int .i64 t.2.1, .int .i64 t.2.2.1, .int .i64 t.2.2.2.1, .int .i64 t.2.2.2.2]] w fun e w' => e = .returned (.bool (decide (entOk t))) ∧ Below w.heap.size w w' := by
  have hA0 := (Below.refl w.heap.size w).alloc (Nat.le_refl _) (.cells #[.int .i64 t.1, .int .i64 t.2.1, .int .i64 t.2.2.1, .int .i64 t.2.2.2.1, .int .i64 t.2.2.2.2] 82)
  cases i1 : inB t.1 1 4
  · have hr : decide (entOk t) = false := decide_eq_false (fun h => by have := (entOk_iff t).1 h; simp [i1] at this)
    rw [hr]
    clear hr
    go_enter Tryd.func47, Tryd.ntmps47
    go_wp2_with (first | (go_at_call 20; refine (l1In_c _ _ _ _).mono ?_; rintro e _ ⟨rfl, rfl⟩; (try simp only [i1])) | fail)
    go_ret
    exact ⟨rfl, hA0⟩
  ·
    cases i2 : inB t.2.1 0 3
    · have hr : decide (entOk t) = false := decide_eq_false (fun h => by have := (entOk_iff t).1 h; simp [i2] at this)
      rw [hr]
      clear hr
      go_enter Tryd.func47, Tryd.ntmps47
      go_wp2_with (first | (go_at_call 20; refine (l1In_c _ _ _ _).mono ?_; rintro e _ ⟨rfl, rfl⟩; (try simp only [i1, i2])) | fail)
      go_ret
      exact ⟨rfl, hA0⟩
    ·
      cases i3 : inB t.2.2.1 0 3
      · have hr : decide (entOk t) = false := decide_eq_false (fun h => by have := (entOk_iff t).1 h; simp [i3] at this)
        rw [hr]
        clear hr
        go_enter Tryd.func47, Tryd.ntmps47
        go_wp2_with (first | (go_at_call 20; refine (l1In_c _ _ _ _).mono ?_; rintro e _ ⟨rfl, rfl⟩; (try simp only [i1, i2, i3])) | fail)
        go_ret
        exact ⟨rfl, hA0⟩
      ·
        cases i4 : inB t.2.2.2.1 0 3
        · have hr : decide (entOk t) = false := decide_eq_false (fun h => by have := (entOk_iff t).1 h; simp [i4] at this)
          rw [hr]
          clear hr
          go_enter Tryd.func47, Tryd.ntmps47
          go_wp2_with (first | (go_at_call 20; refine (l1In_c _ _ _ _).mono ?_; rintro e _ ⟨rfl, rfl⟩; (try simp only [i1, i2, i3, i4])) | fail)
          go_ret
          exact ⟨rfl, hA0⟩
        ·
          cases i5 : inB t.2.2.2.2 0 20
          · have hr : decide (entOk t) = false := decide_eq_false (fun h => by have := (entOk_iff t).1 h; simp [i5] at this)
            rw [hr]
            clear hr
            go_enter Tryd.func47, Tryd.ntmps47
            go_wp2_with (first | (go_at_call 20; refine (l1In_c _ _ _ _).mono ?_; rintro e _ ⟨rfl, rfl⟩; (try simp only [i1, i2, i3, i4, i5])) | fail)
            go_ret
            exact ⟨rfl, hA0⟩
          · have hr : decide (entOk t) = true := decide_eq_true ((entOk_iff t).2 ⟨i1, i2, i3, i4, i5⟩)
            rw [hr]
            clear hr
            go_enter Tryd.func47, Tryd.ntmps47
            go_wp2_with (first | (go_at_call 20; refine (l1In_c _ _ _ _).mono ?_; rintro e _ ⟨rfl, rfl⟩; (try simp only [i1, i2, i3, i4, i5])) | fail)
            go_ret
            exact ⟨rfl, hA0⟩
set_option maxRecDepth 100000 in
set_option maxHeartbeats 4000000 in
theorem l2Ok_c (A : Option Addr) (n c : Nat) (B : Option Addr) (p d : Nat) (E : Option Addr) (q f : Nat) (D : Nat → Prop) (g : GameT) (w : World) (hg : GmD w D A n c B p d E q f g) (hD : ∀ b, D b → b < w.heap.size) (hbn : n ≤ 1048576) (hbp : p ≤ 1048576) (hbq : q ≤ 1048576) :
    Calls Tryd.prog 21 #[.agg #[.slice A n c, .slice B p d, .slice E q f]] w fun e w' => e = .returned (.bool (okB g)) ∧ Below w.heap.size w w' := by
  have hA0 := (Below.refl w.heap.size w).alloc (Nat.le_refl _) (.cells #[.slice A n c, .slice B p d, .slice E q f] 35)
  have hx0 := Bx3.made w (.slice A n c) (.slice B p d) (.slice E q f) 35
  have hx0h := hide hx0
  have hgh := hide hg
  have hn' := hide hg.en.len
  have hp' := hide hg.fl.len
  have hq' := hide hg.la.len
  clear hx0 hg
  go_enter Tryd.func21, Tryd.ntmps21
  go_wp2
  generalize w.alloc (.cells #[.slice A n c, .slice B p d, .slice E q f] 35) = w1 at *
  have hz1 := hA0.size
  go_loopw [4, 3] (fun i s wr => ∃ (k : Nat) (gs : Int), k ≤ n ∧ i = .int .i64 (k : Int) ∧ s = .int .i64 gs ∧ Hid (goldS (g.1.take k) = gs) ∧ Hid (preE g.1 k) ∧ Below w1.heap.size w1 wr) (fun i _ _ => n - (intOf i).toNat)
  case atStart => exact ⟨0, 0, Nat.zero_le _, rfl, rfl, hide rfl, hide (preE.zero _), Below.refl _ _⟩
  case round =>
    obtain ⟨k, gs, hk, rfl, rfl, hgsh, hpre, hbr⟩ := hrel
    have hzr := hbr.size
    have hgr := (hgh.out.below hA0 hD).below hbr (fun b hb => by have := hD b hb; omega)
    have hxr := hx0h.out.below hbr hx0h.out.lt
    obtain ⟨xx0, xx1, xx2, -, -, -⟩ := hxr.cells
    have hlxr := hxr.lt
    have hBr := hA0.trans (hbr.mono hz1)
    have hgsb : 0 ≤ gs ∧ gs ≤ 20 * (k : Int) := by have := hpre.out.gold (by have := hn'.out; omega); rw [hgsh.out] at this; exact this
    by_cases hlt : k < n
    · have hlx : k < g.1.length := by have := hn'.out; omega
      obtain ⟨b, off, rfl, hDb⟩ := hgr.en.addr hlx
      obtain ⟨a0, a1, a2, a3, a4⟩ := hgr.en.ent hlx
      have hbw := hD b hDb
      have hbr' : b < wr.heap.size := by omega
      have hw64 : Hid (goldS (g.1.take (k + 1)) = gs + g.1[k].2.2.2.2) := hide (by rw [goldS_take hlx, hgsh.out])
      have hprevc : Hid (∀ j (hj : j + 1 = k), wr.cell? ⟨b, off + j * 5, none⟩ = some (.int .i64 (g.1[j]'(by omega)).1)) := hide (fun j hj => (hgr.en.ent (by omega)).1)
      clear hgr
      go_wp2
      refine wp_region_T (SinceB (wr.heap.size) _) [] [] [] [0, 1, 2, 3, 4, 5, 6, 7, 8, 9, 10, 11, 12, 13, 14, 15, 16, 17, 18, 19, 20, 21, 22, 23, 24, 25, 26] (by kernel_rfl) (by kernel_rfl) (by kernel_rfl) (SinceB.drew _ _) ?_; simp only [pickL, List.getElem?_cons_succ, List.getElem?_cons_zero]
      cases ie : decide (entOk g.1[k])
      · have hres := hide (ok_not hlx (g := g) (fun h => of_decide_eq_false ie h.1))
        go_wp2_with (first
          | (go_at_call 47; refine (l2EntOk_c g.1[k] _).mono ?_; rintro e w2 ⟨rfl, hb2⟩; simp only [ie]; have hb2 : Below wr.heap.size wr w2 := Below.appR (Below.drew (Below.refl _ _)) hb2; have hS2 : SinceB (wr.heap.size) wr w2 := (SinceB.refl _ _).below hb2 (Nat.le_refl _); have hK := hK)
          | (with_reducible refine SinceB.and_ ?_ ?_; (focus (repeat (first | (with_reducible exact SinceB.refl _ _) | (with_reducible assumption) | (with_reducible refine SinceB.drewR ?_) | ((with_reducible refine SinceB.alloc ?_ ?_ _); rotate_left; (focus (first | (with_reducible assumption) | (simp; done) | (simp; omega) | omega))) | ((with_reducible refine SinceB.set ?_ ?_ _); rotate_left; (focus (first | omega | (simp; done) | (simp; omega))))))); intro hS) | ((with_reducible refine wpT_noL ?_ ?_); (focus (first | exact wanted_no _ _ _ rfl rfl rfl | exact wanted_un _ _ _ rfl rfl rfl)); simp only [setO, List.set_cons_succ, List.set_cons_zero]) | ((with_reducible refine wpT_q0 ?_ ?_ ?_ ?_); (focus rfl); (focus rfl); (focus rfl); intro K hK) | ((with_reducible refine wpT_i ?_ ?_); (focus (refine ⟨_, _, _, _, _, _, _, _, rfl, rfl, rfl, rfl, rfl, ?_⟩; omega)); intro K hK) | ((with_reducible apply wpT_lB); (focus rfl); (focus rfl); (focus rfl); (focus rfl); (focus (first | exact SinceB.drew _ _ | (with_reducible assumption))); (focus (simp <;> omega)); (focus go_simp); intro K hK) | ((with_reducible apply wpT_lwB); (focus exact wanted_yes _ _ _ rfl rfl rfl); (focus rfl); (focus rfl); (focus rfl); (focus (first | exact SinceB.drew _ _ | (with_reducible assumption))); (focus (simp <;> omega)); (focus go_simp); intro K hK) | ((with_reducible refine wpT_xs0 ?_ ?_ ?_); (focus rfl); (focus rfl); intro K hK) | ((with_reducible refine wpT_q1 ?_ ?_ ?_ ?_); (focus exact wanted_yes _ _ _ rfl rfl rfl); (focus rfl); (focus rfl); intro K hK) | ((with_reducible refine wpT_xs1 ?_ ?_ ?_); (focus exact wanted_yes _ _ _ rfl rfl rfl); (focus rfl); intro K hK) | ((with_reducible refine wpT_nil ?_); try dsimp only)
          | fail)
        go_ret
        exact ⟨by rw [hres.out]; rfl, hBr.trans (hb2.mono hBr.size)⟩
      · have hent := of_decide_eq_true ie
        by_cases hk0 : k = 0
        · have hpre' := hide (hpre.out.succ hlx hent (by have h1 := hent.1.1; unfold lastC; rw [if_pos hk0]; omega))
          have hgold := hent.2.2.2.2
          unfold rng at hgold
          have hk0' : decide (0 < (k : Int)) = false := decide_eq_false (by omega)
          have hk0'' : ¬ 0 < k := by omega
          clear hent
          have hk0h := hide hk0
          clear hk0
          go_wp2_with (first
            | (go_at_call 47; refine (l2EntOk_c g.1[k] _).mono ?_; rintro e w2 ⟨rfl, hb2⟩; simp only [ie]; have hb2 : Below wr.heap.size wr w2 := Below.appR (Below.drew (Below.refl _ _)) hb2; have hS2 : SinceB (wr.heap.size) wr w2 := (SinceB.refl _ _).below hb2 (Nat.le_refl _); have hz2 := hb2.size; have xx0 := keepc hb2 xx0; have xx1 := keepc hb2 xx1; have xx2 := keepc hb2 xx2; have a0 := keepc hb2 a0; have a4 := keepc hb2 a4; have hK := hK)
            | (with_reducible refine SinceB.and_ ?_ ?_; (focus (repeat (first | (with_reducible exact SinceB.refl _ _) | (with_reducible assumption) | (with_reducible refine SinceB.drewR ?_) | ((with_reducible refine SinceB.alloc ?_ ?_ _); rotate_left; (focus (first | (with_reducible assumption) | (simp; done) | (simp; omega) | omega))) | ((with_reducible refine SinceB.set ?_ ?_ _); rotate_left; (focus (first | omega | (simp; done) | (simp; omega))))))); intro hS) | ((with_reducible refine wpT_noL ?_ ?_); (focus (first | exact wanted_no _ _ _ rfl rfl rfl | exact wanted_un _ _ _ rfl rfl rfl)); simp only [setO, List.set_cons_succ, List.set_cons_zero]) | ((with_reducible refine wpT_q0 ?_ ?_ ?_ ?_); (focus rfl); (focus rfl); (focus rfl); intro K hK) | ((with_reducible refine wpT_i ?_ ?_); (focus (refine ⟨_, _, _, _, _, _, _, _, rfl, rfl, rfl, rfl, rfl, ?_⟩; omega)); intro K hK) | ((with_reducible apply wpT_lB); (focus rfl); (focus rfl); (focus rfl); (focus rfl); (focus (first | exact SinceB.drew _ _ | (with_reducible assumption))); (focus (simp <;> omega)); (focus go_simp); intro K hK) | ((with_reducible apply wpT_lwB); (focus exact wanted_yes _ _ _ rfl rfl rfl); (focus rfl); (focus rfl); (focus rfl); (focus (first | exact SinceB.drew _ _ | (with_reducible assumption))); (focus (simp <;> omega)); (focus go_simp); intro K hK) | ((with_reducible refine wpT_xs0 ?_ ?_ ?_); (focus rfl); (focus rfl); intro K hK) | ((with_reducible refine wpT_q1 ?_ ?_ ?_ ?_); (focus exact wanted_yes _ _ _ rfl rfl rfl); (focus rfl); (focus rfl); intro K hK) | ((with_reducible refine wpT_xs1 ?_ ?_ ?_); (focus exact wanted_yes _ _ _ rfl rfl rfl); (focus rfl); intro K hK) | ((with_reducible refine wpT_nil ?_); try dsimp only)
            | fail)
          go_roundw
          case rel => exact ⟨k + 1, _, by omega, by go_num, rfl, hw64, hpre', hbr.trans (hb2.mono hzr)⟩
          case measure => simp [intOf]; omega
        · obtain ⟨j, hj⟩ : ∃ j, j + 1 = k := ⟨k - 1, by omega⟩
          have hjx : j < g.1.length := by omega
          have b0 := hprevc.out j hj
          have hlast : lastC g.1 k = (g.1[j]'hjx).1 := by rw [← hj]; exact lastC_succ hjx
          have hjk : (k : Int) - 1 = (j : Int) := by omega
          have hjn : j < n := by omega
          have hk0' : decide (0 < (k : Int)) = true := decide_eq_true (by omega)
          have hk0'' : 0 < k := by omega
          have hgold := hent.2.2.2.2
          unfold rng at hgold
          cases il : decide (g.1[k].1 ≤ (g.1[j]'hjx).1)
          · have hpre' := hide (hpre.out.succ hlx hent (by rw [hlast]; have := of_decide_eq_false il; omega))
            have hlh := hide hlast
            clear hlast hent
            go_wp2_with (first
              | (go_at_call 47; refine (l2EntOk_c g.1[k] _).mono ?_; rintro e w2 ⟨rfl, hb2⟩; simp only [ie]; have hb2 : Below wr.heap.size wr w2 := Below.appR (Below.drew (Below.refl _ _)) hb2; have hS2 : SinceB (wr.heap.size) wr w2 := (SinceB.refl _ _).below hb2 (Nat.le_refl _); have hz2 := hb2.size; have xx0 := keepc hb2 xx0; have xx1 := keepc hb2 xx1; have xx2 := keepc hb2 xx2; have a0 := keepc hb2 a0; have a4 := keepc hb2 a4; have b0 := keepc hb2 b0; have hK := hK)
              | (with_reducible refine SinceB.and_ ?_ ?_; (focus (repeat (first | (with_reducible exact SinceB.refl _ _) | (with_reducible assumption) | (with_reducible refine SinceB.drewR ?_) | ((with_reducible refine SinceB.alloc ?_ ?_ _); rotate_left; (focus (first | (with_reducible assumption) | (simp; done) | (simp; omega) | omega))) | ((with_reducible refine SinceB.set ?_ ?_ _); rotate_left; (focus (first | omega | (simp; done) | (simp; omega))))))); intro hS) | ((with_reducible refine wpT_noL ?_ ?_); (focus (first | exact wanted_no _ _ _ rfl rfl rfl | exact wanted_un _ _ _ rfl rfl rfl)); simp only [setO, List.set_cons_succ, List.set_cons_zero]) | ((with_reducible refine wpT_q0 ?_ ?_ ?_ ?_); (focus rfl); (focus rfl); (focus rfl); intro K hK) | ((with_reducible refine wpT_i ?_ ?_); (focus (refine ⟨_, _, _, _, _, _, _, _, rfl, rfl, rfl, rfl, rfl, ?_⟩; omega)); intro K hK) | ((with_reducible apply wpT_lB); (focus rfl); (focus rfl); (focus rfl); (focus rfl); (focus (first | exact SinceB.drew _ _ | (with_reducible assumption))); (focus (simp <;> omega)); (focus go_simp); intro K hK) | ((with_reducible apply wpT_lwB); (focus exact wanted_yes _ _ _ rfl rfl rfl); (focus rfl); (focus rfl); (focus rfl); (focus (first | exact SinceB.drew _ _ | (with_reducible assumption))); (focus (simp <;> omega)); (focus go_simp); intro K hK) | ((with_reducible refine wpT_xs0 ?_ ?_ ?_); (focus rfl); (focus rfl); intro K hK) | ((with_reducible refine wpT_q1 ?_ ?_ ?_ ?_); (focus exact wanted_yes _ _ _ rfl rfl rfl); (focus rfl); (focus rfl); intro K hK) | ((with_reducible refine wpT_xs1 ?_ ?_ ?_); (focus exact wanted_yes _ _ _ rfl rfl rfl); (focus rfl); intro K hK) | ((with_reducible refine wpT_nil ?_); try dsimp only)
              | fail)
            go_roundw
            case rel => exact ⟨k + 1, _, by omega, by go_num, rfl, hw64, hpre', hbr.trans (hb2.mono hzr)⟩
            case measure => simp [intOf]; omega
          · have hres := hide (ok_not hlx (g := g) (fun h => by have h1 := h.2; rw [hlast] at h1; have := of_decide_eq_true il; omega))
            have hlh := hide hlast
            clear hlast hent
            go_wp2_with (first
              | (go_at_call 47; refine (l2EntOk_c g.1[k] _).mono ?_; rintro e w2 ⟨rfl, hb2⟩; simp only [ie]; have hb2 : Below wr.heap.size wr w2 := Below.appR (Below.drew (Below.refl _ _)) hb2; have hS2 : SinceB (wr.heap.size) wr w2 := (SinceB.refl _ _).below hb2 (Nat.le_refl _); have hz2 := hb2.size; have xx0 := keepc hb2 xx0; have xx1 := keepc hb2 xx1; have xx2 := keepc hb2 xx2; have a0 := keepc hb2 a0; have a4 := keepc hb2 a4; have b0 := keepc hb2 b0; have hK := hK)
              | (with_reducible refine SinceB.and_ ?_ ?_; (focus (repeat (first | (with_reducible exact SinceB.refl _ _) | (with_reducible assumption) | (with_reducible refine SinceB.drewR ?_) | ((with_reducible refine SinceB.alloc ?_ ?_ _); rotate_left; (focus (first | (with_reducible assumption) | (simp; done) | (simp; omega) | omega))) | ((with_reducible refine SinceB.set ?_ ?_ _); rotate_left; (focus (first | omega | (simp; done) | (simp; omega))))))); intro hS) | ((with_reducible refine wpT_noL ?_ ?_); (focus (first | exact wanted_no _ _ _ rfl rfl rfl | exact wanted_un _ _ _ rfl rfl rfl)); simp only [setO, List.set_cons_succ, List.set_cons_zero]) | ((with_reducible refine wpT_q0 ?_ ?_ ?_ ?_); (focus rfl); (focus rfl); (focus rfl); intro K hK) | ((with_reducible refine wpT_i ?_ ?_); (focus (refine ⟨_, _, _, _, _, _, _, _, rfl, rfl, rfl, rfl, rfl, ?_⟩; omega)); intro K hK) | ((with_reducible apply wpT_lB); (focus rfl); (focus rfl); (focus rfl); (focus rfl); (focus (first | exact SinceB.drew _ _ | (with_reducible assumption))); (focus (simp <;> omega)); (focus go_simp); intro K hK) | ((with_reducible apply wpT_lwB); (focus exact wanted_yes _ _ _ rfl rfl rfl); (focus rfl); (focus rfl); (focus rfl); (focus (first | exact SinceB.drew _ _ | (with_reducible assumption))); (focus (simp <;> omega)); (focus go_simp); intro K hK) | ((with_reducible refine wpT_xs0 ?_ ?_ ?_); (focus rfl); (focus rfl); intro K hK) | ((with_reducible refine wpT_q1 ?_ ?_ ?_ ?_); (focus exact wanted_yes _ _ _ rfl rfl rfl); (focus rfl); (focus rfl); intro K hK) | ((with_reducible refine wpT_xs1 ?_ ?_ ?_); (focus exact wanted_yes _ _ _ rfl rfl rfl); (focus rfl); intro K hK) | ((with_reducible refine wpT_nil ?_); try dsimp only)
              | fail)
            go_ret
            exact ⟨by rw [hres.out]; rfl, hBr.trans (hb2.mono hBr.size)⟩
    · obtain rfl : k = n := by omega
      have hpreN := hide (show preE g.1 g.1.length from by rw [← hn'.out]; exact hpre.out)
      have hgsN : Hid (goldS g.1 = gs) := hide (by rw [← hgsh.out, List.take_of_length_le (by have := hn'.out; omega)])
      go_wp2
      generalize wr = v1 at *
      go_loopw [5, 3] (fun i s ws => ∃ (j : Nat) (fs : Int), j ≤ p ∧ i = .int .i64 (j : Int) ∧ s = .int .i64 (gs + fs) ∧ Hid ((g.2.1.take j).sum = fs) ∧ Hid (preF g.2.1 j) ∧ Below v1.heap.size v1 ws) (fun i _ _ => p - (intOf i).toNat)
      case atStart => exact ⟨0, 0, Nat.zero_le _, rfl, by simp, hide rfl, hide (fun j _ h => absurd h (by omega)), Below.refl _ _⟩
      case round =>
        obtain ⟨j, fs, hj, rfl, rfl, hfsh, hpf, hbs⟩ := hrel
        have hzs := hbs.size
        have hgs2 := hgr.below hbs (fun b hb => by have := hD b hb; omega)
        have hxs := hxr.below hbs hlxr
        clear xx0 xx1 xx2
        obtain ⟨xx0, xx1, xx2, -, -, -⟩ := hxs.cells
        have hlxs := hxs.lt
        have hfsb : 0 ≤ fs ∧ fs ≤ 20 * (j : Int) := by have := hpf.out.sum (by have := hp'.out; omega); rw [hfsh.out] at this; exact this
        have hBs := hA0.trans ((hbr.mono hz1).trans (hbs.mono (by omega)))
        by_cases hlt2 : j < p
        · have hjx : j < g.2.1.length := by have := hp'.out; omega
          obtain ⟨bB, offB, rfl, hDb⟩ := hgs2.fl.addr hjx
          have a0 := hgs2.fl.i64 hjx
          have hbw := hD bB hDb
          have hbr' : bB < wr.heap.size := by omega
          have hnext : Hid ((g.2.1.take (j + 1)).sum = fs + g.2.1[j]) := hide (by rw [sum_take hjx, hfsh.out])
          clear hgs2
          cases i1 : inB g.2.1[j] 0 20
          · have hres := hide (ok_flo hjx (g := g) (fun h => inB_no i1 h))
            go_wp2_with (first
              | (go_at_call 20; refine (l1In_c _ _ _ _).mono ?_; rintro e _ ⟨rfl, rfl⟩; (try simp only [i1]))
              | fail)
            go_ret
            exact ⟨by rw [hres.out]; rfl, hBs⟩
          · have i1y := inB_yes i1
            have hpf' := hide (hpf.out.succ hjx i1y)
            go_wp2_with (first
              | (go_at_call 20; refine (l1In_c _ _ _ _).mono ?_; rintro e _ ⟨rfl, rfl⟩; (try simp only [i1]))
              | fail)
            go_roundw
            case rel => exact ⟨j + 1, _, by omega, by go_num, by congr 1; omega, hnext, hpf', hbs⟩
            case measure => simp [intOf]; omega
        · obtain rfl : j = p := by omega
          have hpfN := hide (show preF g.2.1 g.2.1.length from by rw [← hp'.out]; exact hpf.out)
          have hfsN : Hid (g.2.1.sum = fs) := hide (by rw [← hfsh.out, List.take_of_length_le (by have := hp'.out; omega)])
          go_wp2
          generalize wr = v2 at *
          go_loopw [6] (fun i ws => ∃ (h : Nat), h ≤ q ∧ i = .int .i64 (h : Int) ∧ Hid (∀ i (hi : i < g.2.2.length), i < h → rng g.2.2[i] 0 30) ∧ Below v2.heap.size v2 ws) (fun i _ => q - (intOf i).toNat)
          case atStart => exact ⟨0, Nat.zero_le _, rfl, hide (fun i _ h => absurd h (by omega)), Below.refl _ _⟩
          case round =>
            obtain ⟨h, hh, rfl, hpl, hbt⟩ := hrel
            have hzt := hbt.size
            have hgt := hgs2.below hbt (fun b hb => by have := hD b hb; omega)
            have hxt := hxs.below hbt hlxs
            clear xx0 xx1 xx2
            obtain ⟨xx0, xx1, xx2, -, -, -⟩ := hxt.cells
            have hlxt := hxt.lt
            have hBt := hBs.trans (hbt.mono (by omega))
            by_cases hlt3 : h < q
            · have hhx : h < g.2.2.length := by have := hq'.out; omega
              obtain ⟨bE, offE, rfl, hDe⟩ := hgt.la.addr hhx
              have a0 := hgt.la.i64 hhx
              have hbw := hD bE hDe
              have hbr' : bE < wr.heap.size := by omega
              clear hgt
              cases i1 : inB g.2.2[h] 0 30
              · have hres := hide (show okB g = false from okB_false fun hg => inB_no i1 (hg.las _ (List.getElem_mem hhx)))
                go_wp2_with (first
                  | (go_at_call 20; refine (l1In_c _ _ _ _).mono ?_; rintro e _ ⟨rfl, rfl⟩; (try simp only [i1]))
                  | fail)
                go_ret
                exact ⟨by rw [hres.out]; rfl, hBt⟩
              · have i1y := inB_yes i1
                go_wp2_with (first
                  | (go_at_call 20; refine (l1In_c _ _ _ _).mono ?_; rintro e _ ⟨rfl, rfl⟩; (try simp only [i1]))
                  | fail)
                go_roundw
                case rel => exact ⟨h + 1, by omega, by go_num, hide (fun i hi hih => by
                  by_cases e : i < h
                  · exact hpl.out i hi e
                  · obtain rfl : i = h := by omega
                    exact i1y), hbt⟩
                case measure => simp [intOf]; omega
            · obtain rfl : h = q := by omega
              have hlaN := hide (show ∀ x ∈ g.2.2, rng x 0 30 from fun x hx => by
                obtain ⟨i, hi, rfl⟩ := List.mem_iff_getElem.1 hx
                exact hpl.out i hi (by have := hq'.out; omega))
              clear hgt
              by_cases h16 : j = 16
              · by_cases h4 : h = 4
                · subst h4
                  subst h16
                  cases h20 : (gs + fs == 20)
                  · have hres := hide (show okB g = false from okB_false fun hg => by
                      have := hg.sum
                      rw [hgsN.out, hfsN.out] at this
                      rw [this] at h20
                      cases h20)
                    go_wp2
                    go_ret
                    exact ⟨by rw [hres.out]; rfl, hBt⟩
                  · have h20' : Hid (gs + fs = 20) := hide (by simpa using h20)
                    have hres := hide (show okB g = true from okB_true (ok_all hpreN.out hpfN.out hlaN.out hp'.out.symm hq'.out.symm (by rw [hgsN.out, hfsN.out]; exact h20'.out)))
                    go_wp2
                    go_ret
                    exact ⟨by rw [hres.out]; rfl, hBt⟩
                · have hres := hide (show okB g = false from okB_false fun hg => h4 (by rw [hq'.out]; exact hg.n4))
                  have e1 : ((h : Int) == 4) = false := by simp; omega
                  have e2 : decide ((h : Int) = 4) = false := decide_eq_false (by omega)
                  have e3 : ¬ ((h : Int) = 4) := by omega
                  subst h16
                  go_wp2
                  go_ret
                  exact ⟨by rw [hres.out]; rfl, hBt⟩
              · have hres := hide (show okB g = false from okB_false fun hg => h16 (by rw [hp'.out]; exact hg.n16))
                have e1 : ((j : Int) == 16) = false := by simp; omega
                have e2 : decide ((j : Int) = 16) = false := decide_eq_false (by omega)
                have e3 : ¬ ((j : Int) = 16) := by omega
                go_wp2
                go_ret
                exact ⟨by rw [hres.out]; rfl, hBt⟩
end Go.Proofs.YtajmfonepnkofaaDoor
