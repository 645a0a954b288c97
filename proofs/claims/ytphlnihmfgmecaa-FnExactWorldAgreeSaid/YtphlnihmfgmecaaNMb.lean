/-
  Package laws on worlds: sizes, comparisons of what reads alike. (Printed by gen_nlr.py.)
  Conditions: none.
-/
import Derived.Test.YtphlnihmfgmecaaNMa
namespace Go.Proofs.Ytphlnihmfgmecaa
open Go.RowKit Rg
set_option linter.unusedVariables false
set_option linter.unusedSimpArgs false

theorem eqRepS_same {A B : Option Addr} {n m c d lo hi lo' hi' : Nat} {ts : List RepT} {w : World} (hs : RdN 7 repR w lo hi A n c ts) (hs' : RdN 7 repR w lo' hi' B m d ts) (hhi : hi ≤ w.heap.size) (hhi' : hi' ≤ w.heap.size) :
    Calls Try.prog 129 #[.slice A n c, .slice B m d] w fun e w' => e = .returned (.bool true) ∧ Below w.heap.size w w' := by
  obtain rfl : n = m := by rw [hs.len, hs'.len]
  have hn' := hide hs.len
  have hc1 := hs.cap
  have hc2 := hs.max
  unfold maxLen at hc2
  go_enter Try.func129, Try.ntmps129
  go_wp2
  go_loopw [5] (fun i wr => ∃ k : Nat, k ≤ n ∧ i = .int .i64 k ∧ Below w.heap.size w wr) (fun i _ => n - (intOf i).toNat)
  case atStart => exact ⟨0, Nat.zero_le _, rfl, Below.refl _ _⟩
  case round =>
    obtain ⟨k, hk, rfl, hbr⟩ := hrel
    have hzr := hbr.size
    by_cases hlt : k < n
    · have hlx : k < ts.length := by have := hn'.out; omega
      obtain ⟨b, off, rfl, hlo, hbh⟩ := hs.addr hlx
      obtain ⟨b', off', rfl, hlo', hbh'⟩ := hs'.addr hlx
      obtain ⟨A1, n1, c1, B1, p1, d1, E1, q1, f1, a0, a1, a2, a3, a4, a5, a6, r0, r1, r2⟩ := (hs.below rep_kept hbr hhi).rep hlx
      obtain ⟨A2, n2, c2, B2, p2, d2, E2, q2, f2, b0, b1, b2, b3, b4, b5, b6, u0, u1, u2⟩ := (hs'.below rep_kept hbr hhi').rep hlx
      have heq := hide (fun W (h : Below wr.heap.size wr W) => eqRep_same ts[k] A1 B1 E1 n1 c1 p1 d1 q1 f1 A2 B2 E2 n2 c2 p2 d2 q2 f2 lo hi lo' hi' W (r0.below (flat_kept _) h (by omega)) (r1.below msg_kept h (by omega)) (r2.below (flat_kept _) h (by omega)) (u0.below (flat_kept _) h (by omega)) (u1.below msg_kept h (by omega)) (u2.below (flat_kept _) h (by omega)) (by have := h.size; omega) (by have := h.size; omega))
      go_wp2
      refine wp_region_T (fun _ => True) [] [] [] [0, 1, 2, 3, 4, 5, 6, 7, 8, 9] (by kernel_rfl) (by kernel_rfl) (by kernel_rfl) trivial ?_; simp only [pickL, List.getElem?_cons_succ, List.getElem?_cons_zero]
      go_wp2_with (first
        | ((with_reducible refine wpT_q0 ?_ ?_ ?_ ?_); (focus rfl); (focus rfl); (focus rfl); intro K hK) | ((with_reducible refine wpT_x0 ?_ ?_ ?_); (focus rfl); (focus rfl); intro K hK) | ((with_reducible refine wpT_noL ?_ ?_); (focus (first | exact wanted_no _ _ _ rfl rfl rfl | exact wanted_un _ _ _ rfl rfl rfl)); simp only [setO, List.set_cons_succ, List.set_cons_zero]) | ((with_reducible refine wpT_q1 ?_ ?_ ?_ ?_); (focus exact wanted_yes _ _ _ rfl rfl rfl); (focus rfl); (focus rfl); intro K hK) | ((with_reducible refine wpT_x1 ?_ ?_ ?_); (focus exact wanted_yes _ _ _ rfl rfl rfl); (focus rfl); intro K hK) | ((with_reducible refine wpT_nil ?_); try dsimp only)
        | (go_at_call 57; refine (heq.out _ (below_drewN wr 1)).mono ?_; rintro e w1 ⟨rfl, hb1⟩)
        | fail)
      go_roundw
      case rel => exact ⟨k + 1, by omega, by go_num, hbr.drew.trans (hb1.mono hzr)⟩
      case measure => simp [intOf]; omega
    · obtain rfl : k = n := by omega
      go_wp2
      go_ret
      exact ⟨rfl, hbr⟩

set_option maxHeartbeats 1000000 in
theorem eqWorld_same (t : WorldT) (A B : Option Addr) (n c p d : Nat) (Au Bu : Option Addr) (nu cu pu du : Nat) (lo hi lo' hi' : Nat) (w : World) (h0 : RdN 7 repR w lo hi A n c t.2.1) (h1 : RdN 11 msgR w lo hi B p d t.2.2) (h0u : RdN 7 repR w lo' hi' Au nu cu t.2.1) (h1u : RdN 11 msgR w lo' hi' Bu pu du t.2.2) (hhi : hi ≤ w.heap.size) (hhi' : hi' ≤ w.heap.size) :
    Calls Try.prog 63 #[.agg #[.int .i64 t.1, .slice A n c, .slice B p d], .agg #[.int .i64 t.1, .slice Au nu cu, .slice Bu pu du]] w fun e w' => e = .returned (.bool true) ∧ Below w.heap.size w w' := by
  have hB : Below w.heap.size w ((w.alloc (.cells #[.int .i64 t.1, .slice A n c, .slice B p d] 46)).alloc (.cells #[.int .i64 t.1, .slice Au nu cu, .slice Bu pu du] 46)) := ((Below.refl _ _).alloc (Nat.le_refl _) _).alloc (by simp) _
  have e_1 : (t.1 != t.1) = false := by simp
  have x1 : ((w.alloc (.cells #[.int .i64 t.1, .slice A n c, .slice B p d] 46)).alloc (.cells #[.int .i64 t.1, .slice Au nu cu, .slice Bu pu du] 46)).cell? ⟨w.heap.size, 1, none⟩ = some (.slice A n c) := by simp
  have y1 : ((w.alloc (.cells #[.int .i64 t.1, .slice A n c, .slice B p d] 46)).alloc (.cells #[.int .i64 t.1, .slice Au nu cu, .slice Bu pu du] 46)).cell? ⟨w.heap.size + 1, 1, none⟩ = some (.slice Au nu cu) := by simp
  have x2 : ((w.alloc (.cells #[.int .i64 t.1, .slice A n c, .slice B p d] 46)).alloc (.cells #[.int .i64 t.1, .slice Au nu cu, .slice Bu pu du] 46)).cell? ⟨w.heap.size, 2, none⟩ = some (.slice B p d) := by simp
  have y2 : ((w.alloc (.cells #[.int .i64 t.1, .slice A n c, .slice B p d] 46)).alloc (.cells #[.int .i64 t.1, .slice Au nu cu, .slice Bu pu du] 46)).cell? ⟨w.heap.size + 1, 2, none⟩ = some (.slice Bu pu du) := by simp
  go_enter Try.func63, Try.ntmps63
  go_wp2_with fail
  generalize ((w.alloc (.cells #[.int .i64 t.1, .slice A n c, .slice B p d] 46)).alloc (.cells #[.int .i64 t.1, .slice Au nu cu, .slice Bu pu du] 46)) = w0 at *
  refine (eqRepS_same (h0.below rep_kept hB hhi) (h0u.below rep_kept hB hhi') (Nat.le_trans hhi hB.size) (Nat.le_trans hhi' hB.size)).mono ?_
  rintro e w1 ⟨rfl, hb1⟩
  have x1 := keepc hb1 x1
  have x2 := keepc hb1 x2
  have y1 := keepc hb1 y1
  have y2 := keepc hb1 y2
  have hB := hB.trans (hb1.mono hB.size)
  go_wp2_with fail
  refine (eqMsgS_same (h1.below msg_kept hB hhi) (h1u.below msg_kept hB hhi') (Nat.le_trans hhi hB.size) (Nat.le_trans hhi' hB.size)).mono ?_
  rintro e w2 ⟨rfl, hb2⟩
  have x1 := keepc hb2 x1
  have x2 := keepc hb2 x2
  have y1 := keepc hb2 y1
  have y2 := keepc hb2 y2
  have hB := hB.trans (hb2.mono hB.size)
  go_wp2
  go_ret
  exact ⟨rfl, hB⟩

set_option maxHeartbeats 1000000 in
theorem szRepS_c (A : Option Addr) (n c lo hi left : Nat) {ts : List RepT} (w : World) (hs : RdN 7 repR w lo hi A n c ts) (hhi : hi ≤ w.heap.size) (hl : left ≤ 1048576) :
    Calls Try.prog 126 #[.slice A n c, .int .i64 (left : Int)] w fun e w' => e = .returned (.int .i64 (szO left (szReps ts))) ∧ Below w.heap.size w w' := by
  have hn' := hide hs.len
  have hc1 := hs.cap
  have hc2 := hs.max
  unfold maxLen at hc2
  have hsz : Hid (szReps ts = n + (ts.map szRep).sum) := hide (by unfold szReps; rw [hn'.out])
  by_cases h0 : n ≤ left
  · have d1 : decide ((left : Int) - (n : Int) < 0) = false := by simp; omega
    go_enter Try.func126, Try.ntmps126
    go_wp2
    go_loopw [1, 5] (fun l i wr => ∃ k : Nat, k ≤ n ∧ i = .int .i64 k ∧ n + ((ts.take k).map szRep).sum ≤ left ∧ l = .int .i64 ((left - (n + ((ts.take k).map szRep).sum) : Nat) : Int) ∧ Below w.heap.size w wr) (fun _ i _ => n - (intOf i).toNat)
    case atStart => exact ⟨0, Nat.zero_le _, rfl, by simpa using h0, by simp; omega, Below.refl _ _⟩
    case round =>
      obtain ⟨k, hk, rfl, hle, rfl, hbr⟩ := hrel
      have hzr := hbr.size
      by_cases hlt : k < n
      · have hlx : k < ts.length := by have := hn'.out; omega
        obtain ⟨b, off, rfl, hlo, hbh⟩ := hs.addr hlx
        obtain ⟨A1, n1, c1, B1, p1, d1, E1, q1, f1, a0, a1, a2, a3, a4, a5, a6, r0, r1, r2⟩ := (hs.below rep_kept hbr hhi).rep hlx
        have hst := hide (sum_take_succ szRep ts k hlx)
        have hto := hide (sum_take_le szRep ts (k + 1))
        generalize hL : left - (n + ((ts.take k).map szRep).sum) = L at *
        have hL' := hide hL
        clear hL
        have hLb : L ≤ 1048576 := by have := hL'.out; omega
        by_cases h1 : szRep ts[k] ≤ L
        · have y := hide (szO_yes h1)
          go_wp2_with fail
          refine (szRep_c ts[k] A1 B1 E1 n1 c1 p1 d1 q1 f1 lo hi L wr r0 r1 r2 (by omega) hLb).mono ?_
          rintro e w1 ⟨rfl, hb1⟩
          rw [y.out]
          have d2 : decide (((L - szRep ts[k] : Nat) : Int) < 0) = false := by simp
          go_wp2
          go_roundw
          case rel => exact ⟨k + 1, by omega, by go_num, by have h2 := hL'.out; have h3 := hst.out; rw [h3]; omega, congrArg (fun z : Nat => Value.int .i64 (z : Int)) (by have h2 := hL'.out; have h3 := hst.out; rw [h3]; omega), hbr.trans (hb1.mono hzr)⟩
          case measure => simp [intOf]; omega
        · have y := hide (szO_no (show L < szRep ts[k] by omega))
          go_wp2_with fail
          refine (szRep_c ts[k] A1 B1 E1 n1 c1 p1 d1 q1 f1 lo hi L wr r0 r1 r2 (by omega) hLb).mono ?_
          rintro e w1 ⟨rfl, hb1⟩
          rw [y.out]
          go_wp2
          go_ret
          exact ⟨congrArg (fun b => Ending.returned (.int .i64 b)) (by have h2 := hL'.out; have h3 := hst.out; have h4 := hto.out; have h5 := hsz.out; rw [szO_no (by omega)]), hbr.trans (hb1.mono hzr)⟩
      · obtain rfl : k = n := by omega
        have hfin : Hid ((ts.take k).map szRep = ts.map szRep) := hide (by rw [List.take_of_length_le (by rw [hn'.out]; omega)])
        rw [hfin.out] at hle
        have hres := hide (congrArg (fun z : Nat => (z : Int)) (show left - (k + ((ts.take k).map szRep).sum) = left - szReps ts from by rw [hfin.out, hsz.out]))
        have hres2 := hide (szO_yes (show szReps ts ≤ left from by rw [hsz.out]; exact hle))
        go_wp2
        go_ret
        exact ⟨congrArg (fun b => Ending.returned (.int .i64 b)) (by rw [hres2.out]; exact hres.out), hbr⟩
  · have d1 : decide ((left : Int) - (n : Int) < 0) = true := by simp; omega
    have y := hide (szO_no (show left < szReps ts from by have := hsz.out; omega))
    go_enter Try.func126, Try.ntmps126
    go_wp2
    go_ret
    exact ⟨congrArg (fun b => Ending.returned (.int .i64 b)) y.out.symm, Below.refl _ _⟩

set_option maxHeartbeats 1000000 in
theorem szWorld_c (t : WorldT) (A B : Option Addr) (n c p d : Nat) (lo hi left : Nat) (w : World) (h0 : RdN 7 repR w lo hi A n c t.2.1) (h1 : RdN 11 msgR w lo hi B p d t.2.2) (hhi : hi ≤ w.heap.size) (hl : left ≤ 1048576) :
    Calls Try.prog 60 #[.agg #[.int .i64 t.1, .slice A n c, .slice B p d], .int .i64 (left : Int)] w fun e w' => e = .returned (.int .i64 (szO left (szWorld t))) ∧ Below w.heap.size w w' := by
  have hB : Below w.heap.size w (w.alloc (.cells #[.int .i64 t.1, .slice A n c, .slice B p d] 88)) := (Below.refl _ _).alloc (Nat.le_refl _) _
  have hsz : Hid (szWorld t = szReps t.2.1 + szMsgs t.2.2) := hide rfl
  have l0 := hide h0.len
  have m0 : n ≤ maxLen := Nat.le_trans h0.cap h0.max
  have l1 := hide h1.len
  have m1 : p ≤ maxLen := Nat.le_trans h1.cap h1.max
  have x1 : (w.alloc (.cells #[.int .i64 t.1, .slice A n c, .slice B p d] 88)).cell? ⟨w.heap.size, 1, none⟩ = some (.slice A n c) := by simp
  have x2 : (w.alloc (.cells #[.int .i64 t.1, .slice A n c, .slice B p d] 88)).cell? ⟨w.heap.size, 2, none⟩ = some (.slice B p d) := by simp
  by_cases k0 : szReps t.2.1 ≤ left
  · have y0 := hide (szO_yes (show szReps t.2.1 ≤ left from by omega))
    go_enter Try.func60, Try.ntmps60
    go_wp2_with fail
    refine (szRepS_c A n c lo hi (left) _ (h0.below rep_kept hB hhi) (Nat.le_trans hhi hB.size) (by omega)).mono ?_
    rintro e w1 ⟨rfl, hb0⟩
    have hB := hB.trans (hb0.mono hB.size)
    have x1 := keepc hb0 x1
    have x2 := keepc hb0 x2
    rw [y0.out]
    have d0 : decide ((((left) - szReps t.2.1 : Nat) : Int) < 0) = false := by simp
    go_wp2_with fail
    by_cases k1 : szMsgs t.2.2 ≤ left - szReps t.2.1
    · have y1 := hide (szO_yes (show szMsgs t.2.2 ≤ left - szReps t.2.1 from by omega))
      refine (szMsgS_c B p d lo hi (left - szReps t.2.1) _ (h1.below msg_kept hB hhi) (Nat.le_trans hhi hB.size) (by omega)).mono ?_
      rintro e w2 ⟨rfl, hb1⟩
      have hB := hB.trans (hb1.mono hB.size)
      have x1 := keepc hb1 x1
      have x2 := keepc hb1 x2
      rw [y1.out]
      have d1 : decide ((((left - szReps t.2.1) - szMsgs t.2.2 : Nat) : Int) < 0) = false := by simp
      go_wp2
      go_ret
      exact ⟨congrArg (fun b => Ending.returned (.int .i64 b)) (by have h9 := hsz.out; have q0 := l0.out; have q1 := l1.out; rw [szO_yes (by omega)]; omega), hB⟩
    · have y1 := hide (szO_no (show left - szReps t.2.1 < szMsgs t.2.2 from by omega))
      refine (szMsgS_c B p d lo hi (left - szReps t.2.1) _ (h1.below msg_kept hB hhi) (Nat.le_trans hhi hB.size) (by omega)).mono ?_
      rintro e w2 ⟨rfl, hb1⟩
      have hB := hB.trans (hb1.mono hB.size)
      have x1 := keepc hb1 x1
      have x2 := keepc hb1 x2
      rw [y1.out]
      go_wp2
      go_ret
      exact ⟨congrArg (fun b => Ending.returned (.int .i64 b)) (by have h9 := hsz.out; have q0 := l0.out; have q1 := l1.out; rw [szO_no (by omega)]), hB⟩
  · have y0 := hide (szO_no (show left < szReps t.2.1 from by omega))
    go_enter Try.func60, Try.ntmps60
    go_wp2_with fail
    refine (szRepS_c A n c lo hi (left) _ (h0.below rep_kept hB hhi) (Nat.le_trans hhi hB.size) (by omega)).mono ?_
    rintro e w1 ⟨rfl, hb0⟩
    have hB := hB.trans (hb0.mono hB.size)
    have x1 := keepc hb0 x1
    have x2 := keepc hb0 x2
    rw [y0.out]
    go_wp2
    go_ret
    exact ⟨congrArg (fun b => Ending.returned (.int .i64 b)) (by have h9 := hsz.out; have q0 := l0.out; have q1 := l1.out; rw [szO_no (by omega)]), hB⟩
end Go.Proofs.Ytphlnihmfgmecaa
