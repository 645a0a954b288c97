/-
  Drawn claims and votes. (Printed by gen_nva.py.)
  Conditions: none.
-/
import Derived.Test.YtkmoefgnejhpoaaNVq
import Derived.Test.YtkmoefgnejhpoaaNU
import Derived.Test.YtkmoefgnejhpoaaBaseG
import Derived.Test.YtkmoefgnejhpoaaNK
namespace Go.Proofs.Ytkmoefgnejhpoaa
open Go.RowKit Rg
set_option linter.unusedVariables false
set_option linter.unusedSimpArgs false

theorem finN {g P b j B : Nat} {a w : World} (us : List Value) (hg : g < b) (hB : B ≤ b) (hr : Rd w g P) (ho : Only B (some g) a w) : Rd (putCells w b j us) g P ∧ Only B (some g) a (putCells w b j us) :=
  ⟨hr.below (below_putCells us (Below.refl (g + 1) w) (by omega)) (by omega), ho.trans (Only.of_below (below_putCells us (Below.refl B w) hB))⟩
theorem BxC.only {w w' : World} {b : Nat} {t : ClaimT} {g : Option Nat} (h : BxC w b t) (ho : Only w.heap.size g w w') (hne : g ≠ some b) : BxC w' b t := (ho.block b h.lt hne).trans h
set_option maxRecDepth 100000 in
set_option maxHeartbeats 2000000 in
theorem l20Claim_c (g P : Nat) (w : World) (hr : Rd w g P) (hP : P ≤ 90000) :
    Calls Try.prog 13 #[.pointer (some ⟨g, 0, none⟩)] w fun e w' => ∃ t : ClaimT, e = .returned (.agg #[.int .i64 t.1, .int .i64 t.2.1, .int .i64 t.2.2.1, .int .i64 t.2.2.2.1, .int .i64 t.2.2.2.2.1, .int .i64 t.2.2.2.2.2.1, .int .i64 t.2.2.2.2.2.2]) ∧ Rd w' g (P + 30) ∧ Only w.heap.size (some g) w w' := by
  have hg := hr.lt
  have hb0 : Below w.heap.size w (w.alloc (.cells #[.int .i64 0, .int .i64 0, .int .i64 0, .int .i64 0, .int .i64 0, .int .i64 0, .int .i64 0] 40)) := (Below.refl _ _).alloc (Nat.le_refl _) _
  have hx0 : BxC (w.alloc (.cells #[.int .i64 0, .int .i64 0, .int .i64 0, .int .i64 0, .int .i64 0, .int .i64 0, .int .i64 0] 40)) w.heap.size (0, 0, 0, 0, 0, 0, 0) := BxC.made w (0, 0, 0, 0, 0, 0, 0)
  have hr0 := hr.keep hb0
  have ho0 : Only w.heap.size (some g) w (w.alloc (.cells #[.int .i64 0, .int .i64 0, .int .i64 0, .int .i64 0, .int .i64 0, .int .i64 0, .int .i64 0] 40)) := Only.of_below hb0
  have hgb : some g ≠ some w.heap.size := by intro h; injection h with h; omega
  go_enter Try.func13, Try.ntmps13
  go_wp2_with fail
  generalize w.alloc (.cells #[.int .i64 0, .int .i64 0, .int .i64 0, .int .i64 0, .int .i64 0, .int .i64 0, .int .i64 0] 40) = w0 at *
  refine (pick_c g _ 3 w0 hr0 (by omega) (by omega)).mono ?_
  rintro e w1 ⟨k1, rfl, hk1, hr1, h1⟩
  have hx1 := hx0.only h1 hgb
  have ho1 := ho0.trans (h1.mono ho0.size)
  have hk1' : (k1 : Int) ≤ 2 := by have := hk1.1 (by omega); omega
  clear hk1 h1
  go_wp2_with fail
  refine (pick_c g _ 3 w1 hr1 (by omega) (by omega)).mono ?_
  rintro e w2 ⟨k2, rfl, hk2, hr2, h2⟩
  have hx2 := hx1.only h2 hgb
  have ho2 := ho1.trans (h2.mono ho1.size)
  clear hk2 h2
  go_wp2_with fail
  refine (l20Req_c g _ w2 hr2 (by omega)).mono ?_
  rintro e w3 ⟨t, rfl, _, hr3, h3⟩
  have hx3 := hx2.only h3 hgb
  have ho3 := ho2.trans (h3.mono ho2.size)
  have hA := (Below.refl w3.heap.size w3).alloc (Nat.le_refl _) (.cells #[.int .i64 (1 + (k1 : Int)), .int .i64 (k2 : Int), .int .i64 t.1, .int .i64 t.2.1, .int .i64 t.2.2.1, .int .i64 t.2.2.2.1, .int .i64 t.2.2.2.2] 40)
  have hy4 : BxC (w3.alloc (.cells #[.int .i64 (1 + (k1 : Int)), .int .i64 (k2 : Int), .int .i64 t.1, .int .i64 t.2.1, .int .i64 t.2.2.1, .int .i64 t.2.2.2.1, .int .i64 t.2.2.2.2] 40)) w3.heap.size (1 + (k1 : Int), (k2 : Int), t) := BxC.made w3 (1 + (k1 : Int), (k2 : Int), t)
  have hx4 := hx3.below hA
  have hr4 := hr3.keep hA
  have ho4 := ho3.trans ((Only.of_below hA).mono ho3.size)
  have hgy : some g ≠ some w3.heap.size := by intro h; injection h with h; have := hr3.lt; omega
  have hwn : w.heap.size < w3.heap.size := hx3.lt
  clear hr0 hr1 hr2 hr3 hx0 hx1 hx2 hx3 ho0 ho1 ho2 ho3 hA hb0 hr
  go_wp2_with fail
  generalize w3.alloc (.cells #[.int .i64 (1 + (k1 : Int)), .int .i64 (k2 : Int), .int .i64 t.1, .int .i64 t.2.1, .int .i64 t.2.2.1, .int .i64 t.2.2.2.1, .int .i64 t.2.2.2.2] 40) = w4 at *
  refine (pick_c g _ 5 w4 hr4 (by omega) (by omega)).mono ?_
  rintro e w5 ⟨k5, rfl, hk5, hr5, h5⟩
  have hx5 := hx4.only h5 hgb
  have hy5 := hy4.only h5 hgy
  have ho5 := ho4.trans (h5.mono ho4.size)
  obtain ⟨x0, x1, x2, x3, x4, x5, x6, xf0, xf1, xf2, xf3, xf4, xf5, xf6⟩ := hx5.cells
  obtain ⟨y0, y1, y2, y3, y4, y5, y6, yf0, yf1, yf2, yf3, yf4, yf5, yf6⟩ := hy5.cells
  have hlx := hx5.lt
  have hly := hy5.lt
  clear hk5 h5 hr4 hx4 hy4 ho4
  cases e1 : ((k5 : Int) == 0)
  · go_wp2
    exact bodyPost_ret (v := .agg #[.int .i64 (1 + (k1 : Int)), .int .i64 (k2 : Int), .int .i64 t.1, .int .i64 t.2.1, .int .i64 t.2.2.1, .int .i64 t.2.2.2.1, .int .i64 t.2.2.2.2]) (by simp [results, Try.results13, go_sem, x0, x1, x2, x3, x4, x5, x6, xf0, xf1, xf2, xf3, xf4, xf5, xf6]) rfl ⟨(1 + (k1 : Int), (k2 : Int), t), rfl, (finN (j := 0) [.int .i64 (1 + (k1 : Int)), .int .i64 (k2 : Int), .int .i64 t.1, .int .i64 t.2.1, .int .i64 t.2.2.1, .int .i64 t.2.2.2.1, .int .i64 t.2.2.2.2] hg (Nat.le_refl _) hr5 ho5).1.mono (by omega), (finN (j := 0) [.int .i64 (1 + (k1 : Int)), .int .i64 (k2 : Int), .int .i64 t.1, .int .i64 t.2.1, .int .i64 t.2.2.1, .int .i64 t.2.2.2.1, .int .i64 t.2.2.2.2] hg (Nat.le_refl _) hr5 ho5).2⟩
  · have f5 := finN (j := 2) [.int .i64 0, .int .i64 0, .int .i64 0, .int .i64 0, .int .i64 0] (show g < w3.heap.size by omega) (Nat.le_of_lt hwn) hr5 ho5
    go_wp2
    exact bodyPost_ret (v := .agg #[.int .i64 (1 + (k1 : Int)), .int .i64 (k2 : Int), .int .i64 0, .int .i64 0, .int .i64 0, .int .i64 0, .int .i64 0]) (by simp [results, Try.results13, go_sem, x0, x1, x2, x3, x4, x5, x6, xf0, xf1, xf2, xf3, xf4, xf5, xf6, y0, y1, y2, y3, y4, y5, y6, yf0, yf1, yf2, yf3, yf4, yf5, yf6]) rfl ⟨(1 + (k1 : Int), (k2 : Int), (0, 0, 0, 0, 0)), rfl, (finN (j := 0) [.int .i64 (1 + (k1 : Int)), .int .i64 (k2 : Int), .int .i64 0, .int .i64 0, .int .i64 0, .int .i64 0, .int .i64 0] hg (Nat.le_refl _) f5.1 f5.2).1.mono (by omega), (finN (j := 0) [.int .i64 (1 + (k1 : Int)), .int .i64 (k2 : Int), .int .i64 0, .int .i64 0, .int .i64 0, .int .i64 0, .int .i64 0] hg (Nat.le_refl _) f5.1 f5.2).2⟩

theorem own_ne {α : Type} {enc : α → List Value} {sz lo g : Nat} {e : TypeId} {W : World} {v : Value} {xs : List α} (hg : g < lo) (h : Own enc sz e W lo v xs) : ∀ j, v.ownBlock = some j → some g ≠ some j := fun j hj e => by
  injection e with e
  have := (h.lt j hj).1
  omega
theorem infoClaimD : (Try.prog.info? 40).map (fun i => (i.zero, i.size, i.bytes)) = some (some (.agg #[.int .i64 0, .int .i64 0, .int .i64 0, .int .i64 0, .int .i64 0, .int .i64 0, .int .i64 0]), 7, 56) := by kernel_rfl
theorem infoVoteD : (Try.prog.info? 45).map (fun i => (i.zero, i.size, i.bytes)) = some (some (.agg #[.int .i64 0, .slice none 0 0]), 2, 32) := by kernel_rfl
set_option maxRecDepth 100000 in
set_option maxHeartbeats 2000000 in
theorem l20Claims_c (g P : Nat) (w : World) (hr : Rd w g P) (hP : P ≤ 50000) :
    Calls Try.prog 40 #[.pointer (some ⟨g, 0, none⟩)] w fun e w' => ∃ (v : Value) (ts : List ClaimT), e = .returned v ∧ ts.length ≤ 3 ∧ Own encClaim 7 40 w' w.heap.size v ts ∧ Rd w' g (P + 200) ∧ Only w.heap.size (some g) w w' := by
  have hg := hr.lt
  have hb0 : Below w.heap.size w (w.alloc (.cells #[] 40)) := (Below.refl _ _).alloc (Nat.le_refl _) _
  have hw0 : Own encClaim 7 40 (w.alloc (.cells #[] 40)) w.heap.size (.slice (some ⟨w.heap.size, 0, none⟩) 0 0) [] := own_empty encClaim 7 40 w
  have hr0 := hr.keep hb0
  have ho0 : Only w.heap.size (some g) w (w.alloc (.cells #[] 40)) := Only.of_below hb0
  go_enter Try.func40, Try.ntmps40
  go_wp2
  generalize w.alloc (.cells #[] 40) = w0 at *
  go_loopw [3, 4] (fun av sv wr => ∃ (k : Nat) (ts : List ClaimT), k ≤ 3 ∧ sv = .int .i64 ((k : Int) + 1) ∧ ts.length ≤ k ∧ Own encClaim 7 40 wr w.heap.size av ts ∧ Rd wr g (P + 40 * k) ∧ Only w.heap.size (some g) w wr) (fun _ sv _ => 4 - (intOf sv).toNat)
  case atStart => exact ⟨0, [], by omega, by go_num, by simp, hw0, hr0.mono (by omega), ho0⟩
  case round =>
    obtain ⟨k, ts, hk, rfl, hlen, hw1, hr1, ho1⟩ := hrel
    by_cases hlt : k < 3
    · have d1 : decide ((k : Int) + 1 ≤ 3) = true := by simp; omega
      go_wp2_with fail
      refine (pick_c g _ 2 wr hr1 (by omega) (by omega)).mono ?_
      rintro e w2 ⟨k2, rfl, hk2, hr2, h2⟩
      have ho2 := ho1.trans (h2.mono ho1.size)
      have hw2 := hw1.only h2 (Nat.le_refl _) (own_ne hg hw1)
      clear hk2 h2
      cases e1 : ((k2 : Int) == 0)
      · go_wp2
        go_roundw
        case rel => exact ⟨k + 1, ts, by omega, by go_num, by omega, hw2, hr2.mono (by omega), ho2⟩
        case measure => simp [intOf]; omega
      · go_wp2_with fail
        refine (l20Claim_c g _ w2 hr2 (by omega)).mono ?_
        rintro e w3 ⟨c, rfl, hr3, h3⟩
        have ho3 := ho2.trans (h3.mono ho2.size)
        have hw3 := hw2.only h3 (Nat.le_refl _) (own_ne hg hw2)
        have hz3 := ho3.size
        have hA2 := (Below.refl w3.heap.size w3).alloc (Nat.le_refl _) (.cells #[.int .i64 ((k : Int) + 1), .int .i64 c.2.1, .int .i64 c.2.2.1, .int .i64 c.2.2.2.1, .int .i64 c.2.2.2.2.1, .int .i64 c.2.2.2.2.2.1, .int .i64 c.2.2.2.2.2.2] 40)
        have hw4 := hw3.below hA2 (Nat.le_refl _)
        have hr4 := hr3.keep hA2
        have ho4 := ho3.trans ((Only.of_below hA2).mono hz3)
        have hzz : (w3.alloc (.cells #[.int .i64 ((k : Int) + 1), .int .i64 c.2.1, .int .i64 c.2.2.1, .int .i64 c.2.2.2.1, .int .i64 c.2.2.2.2.1, .int .i64 c.2.2.2.2.2.1, .int .i64 c.2.2.2.2.2.2] 40)).heap.size = w3.heap.size + 1 := by simp
        have hsl : Sl encClaim 7 ((w3.alloc (.cells #[.int .i64 ((k : Int) + 1), .int .i64 c.2.1, .int .i64 c.2.2.1, .int .i64 c.2.2.2.1, .int .i64 c.2.2.2.2.1, .int .i64 c.2.2.2.2.2.1, .int .i64 c.2.2.2.2.2.2] 40)).alloc (.cells #[.int .i64 ((k : Int) + 1), .int .i64 c.2.1, .int .i64 c.2.2.1, .int .i64 c.2.2.2.1, .int .i64 c.2.2.2.2.1, .int .i64 c.2.2.2.2.2.1, .int .i64 c.2.2.2.2.2.2] 40)) 0 (w3.heap.size + 1 + 1) (some ⟨w3.heap.size + 1, 0, none⟩) [((k : Int) + 1, c.2)] := by
          have := sl_arr encClaim_len (w3.alloc (.cells #[.int .i64 ((k : Int) + 1), .int .i64 c.2.1, .int .i64 c.2.2.1, .int .i64 c.2.2.2.1, .int .i64 c.2.2.2.2.1, .int .i64 c.2.2.2.2.2.1, .int .i64 c.2.2.2.2.2.2] 40)) #[.int .i64 ((k : Int) + 1), .int .i64 c.2.1, .int .i64 c.2.2.1, .int .i64 c.2.2.2.1, .int .i64 c.2.2.2.2.1, .int .i64 c.2.2.2.2.2.1, .int .i64 c.2.2.2.2.2.2] 40 [((k : Int) + 1, c.2)] rfl
          rw [hzz] at this
          exact this.mono (Nat.zero_le _) (Nat.le_refl _)
        have hzz' := hide hzz
        clear hzz
        go_wp2_with (first
          | (at_builtin; refine wpList_app encClaim_len (by omega) encClaim_one rfl _ _ 25 rfl 40 _ 56 Try.underlying25 infoClaimD rfl w.heap.size _ ts rfl (hw4.alloc _) 0 _ _ [((k : Int) + 1, c.2)] _ _ rfl rfl hsl ?h2 ?h3 ?_)
          | fail)
        case h2 => simp [maxLen]; omega
        case h3 => simp; omega
        intro v5 w5 hw5 hg5 hb5
        have hB : Below w.heap.size (w3.alloc (.cells #[.int .i64 ((k : Int) + 1), .int .i64 c.2.1, .int .i64 c.2.2.1, .int .i64 c.2.2.2.1, .int .i64 c.2.2.2.2.1, .int .i64 c.2.2.2.2.2.1, .int .i64 c.2.2.2.2.2.2] 40)) w5 := ((Below.refl _ _).alloc (by rw [hzz'.out]; omega) _).trans hb5
        have hr5 := hr4.below hB (by omega)
        have ho5 := ho4.trans (Only.of_below hB)
        go_wp2
        go_roundw
        case rel => exact ⟨k + 1, ts ++ [((k : Int) + 1, c.2)], by omega, by go_num, by simp; omega, hw5, hr5.mono (by omega), ho5⟩
        case measure => simp [intOf]; omega
    · obtain rfl : k = 3 := by omega
      have d1 : decide (((3 : Nat) : Int) + 1 ≤ 3) = false := by decide
      go_wp2
      go_ret
      exact ⟨_, ts, rfl, hlen, hw1, hr1.mono (by omega), ho1⟩
theorem Grow.lt {α : Type} {sz : Nat} {e : TypeId} {R : ElR α} {w : World} {lo : Nat} {v : Value} {ts : List α} (h : Grow sz e R w lo v ts) : ∀ k, v.ownBlock = some k → lo ≤ k ∧ k < w.heap.size := by
  obtain ⟨ls, h1, _⟩ := h
  exact h1.lt
theorem Grow.only {α : Type} {sz : Nat} {e : TypeId} {R : ElR α} {w w' : World} {lo g : Nat} {v : Value} {ts : List α} (K : Kept R) (h : Grow sz e R w lo v ts) (ho : Only w.heap.size (some g) w w') (hg : g < lo) : Grow sz e R w' lo v ts :=
  h.keep K ho.size fun b h1 h2 => ho.block b h2 (fun e => by injection e with e; omega)
set_option maxRecDepth 100000 in
set_option maxHeartbeats 2000000 in
theorem l20Votes_c (g P : Nat) (w : World) (hr : Rd w g P) (hP : P ≤ 20000) :
    Calls Try.prog 41 #[.pointer (some ⟨g, 0, none⟩)] w fun e w' => ∃ (v : Value) (ts : List VoteT), e = .returned v ∧ ts.length ≤ 4 ∧ Grow 2 45 voteR w' w.heap.size v ts ∧ Rd w' g (P + 1000) ∧ Only w.heap.size (some g) w w' ∧ (∀ v ∈ ts, v.2.length ≤ 3) := by
  have hg := hr.lt
  have hb0 : Below w.heap.size w (w.alloc (.cells #[] 45)) := (Below.refl _ _).alloc (Nat.le_refl _) _
  have hw0 : Grow 2 45 voteR (w.alloc (.cells #[] 45)) w.heap.size (.slice (some ⟨w.heap.size, 0, none⟩) 0 0) [] := Grow.empty 2 _ voteR w
  have hr0 := hr.keep hb0
  have ho0 : Only w.heap.size (some g) w (w.alloc (.cells #[] 45)) := Only.of_below hb0
  go_enter Try.func41, Try.ntmps41
  go_wp2
  generalize w.alloc (.cells #[] 45) = w0 at *
  go_loopw [3, 4] (fun av sv wr => ∃ (k : Nat) (ts : List VoteT), k ≤ 4 ∧ sv = .int .i64 (k : Int) ∧ ts.length ≤ k ∧ Grow 2 45 voteR wr w.heap.size av ts ∧ Rd wr g (P + 210 * k) ∧ Only w.heap.size (some g) w wr ∧ Hid (∀ v ∈ ts, v.2.length ≤ 3)) (fun _ sv _ => 4 - (intOf sv).toNat)
  case atStart => exact ⟨0, [], by omega, rfl, by simp, hw0, hr0.mono (by omega), ho0, hide (by simp)⟩
  case round =>
    obtain ⟨k, ts, hk, rfl, hlen, hw1, hr1, ho1, hsm⟩ := hrel
    by_cases hlt : k < 4
    · have d1 : decide ((k : Int) < 4) = true := by simp; omega
      go_wp2_with fail
      refine (pick_c g _ 4 wr hr1 (by omega) (by omega)).mono ?_
      rintro e w2 ⟨k2, rfl, hk2, hr2, h2⟩
      have ho2 := ho1.trans (h2.mono ho1.size)
      have hw2 := hw1.only vote_kept h2 hg
      clear hk2 h2
      cases e1 : decide (0 < k2)
      · go_wp2
        go_roundw
        case rel => exact ⟨k + 1, ts, by omega, by go_num, by omega, hw2, hr2.mono (by omega), ho2, hsm⟩
        case measure => simp [intOf]; omega
      · go_wp2_with fail
        refine (l20Claims_c g _ w2 hr2 (by omega)).mono ?_
        rintro e w3 ⟨vc, cs, rfl, hcl, hwc, hr3, h3⟩
        have ho3 := ho2.trans (h3.mono ho2.size)
        have hvlt := hide hw2.lt
        have hw3 := hw2.only vote_kept h3 hg
        have hz3 := ho3.size
        have hz2 := ho2.size
        have hz23 := h3.size
        obtain ⟨Ac, cc, rfl, hc1, hc2, _⟩ := hwc.form
        have hrc := hwc.rdn encClaim_len
        obtain ⟨x1, hx1⟩ : ∃ x1 : Cs 2, x1.val = [.int .i64 (k : Int), .slice Ac cs.length cc] := ⟨⟨[.int .i64 (k : Int), .slice Ac cs.length cc], rfl, by intro u hu; simp at hu; rcases hu with rfl | rfl <;> rfl⟩, rfl⟩
        have hA := (Below.refl w3.heap.size w3).alloc (Nat.le_refl _) (.cells #[.int .i64 (k : Int), .slice Ac cs.length cc] 45)
        obtain ⟨ls, hown, hll, hpa⟩ := hw3
        have hpa' := hide hpa
        have hll' := hide hll
        clear hpa hll
        have hsl : Sl Cs.val 2 (w3.alloc (.cells #[.int .i64 (k : Int), .slice Ac cs.length cc] 45)) 0 (w3.heap.size + 1) (some ⟨w3.heap.size, 0, none⟩) [x1] := (sl_arr Cs.len w3 #[.int .i64 (k : Int), .slice Ac cs.length cc] 45 [x1] (by simp [hx1])).mono (Nat.zero_le _) (Nat.le_refl _)
        have hx1' := hide hx1
        clear hx1
        go_wp2_with (first
          | (at_builtin; refine wpList_appG Cs.len (by omega) Cs.one rfl _ _ 26 rfl 45 _ 32 Try.underlying26 infoVoteD rfl w.heap.size _ ls rfl (hown.alloc _) 0 _ _ [x1] _ _ rfl rfl hsl ?h2 ?h3 ?_)
          | fail)
        case h2 => have := hll'.out; simp [maxLen]; omega
        case h3 => simp; omega
        intro v5 w5 hw5 hg5 hb5 hloc
        have hgr : Grow 2 45 voteR w5 w.heap.size v5 (ts ++ [((k : Int), cs)]) := by
          have hk0 : ∀ (i : Nat) (hl : i < ls.length) (ht : i < ts.length), Apart voteR (w3.alloc (.cells #[.int .i64 (k : Int), .slice Ac cs.length cc] 45)) w.heap.size _ ls[i].val ts[i] := fun i hl ht => (hpa'.out i hl ht).keep vote_kept hA.size (fun b _ h2 _ => hA.block b h2)
          refine Grow.snoc vote_kept (lo2 := w2.heap.size) (hi2 := w3.heap.size) ⟨ls, hown.alloc _, hll'.out, hk0⟩ hk0 hll'.out hw5 hg5 (by simpa using hloc) (by omega) hA.size ?_ ?_
          · intro j hj
            exact .inr (hvlt.out j hj).2
          · rw [hx1'.out]
            exact ⟨Ac, cs.length, cc, rfl, hrc.below (flat_kept _) hA (Nat.le_refl _)⟩
        have hr4 := hr3.keep hA
        have hB : Below w.heap.size w3 w5 := (hA.mono hz3).trans hb5
        have hr5 := hr3.below hB (by omega)
        have ho5 := ho3.trans (Only.of_below hB)
        go_wp2
        go_roundw
        case rel => exact ⟨k + 1, ts ++ [((k : Int), cs)], by omega, by go_num, by simp; omega, hgr, hr5.mono (by omega), ho5, hide (fun v hv => by
          rcases List.mem_append.1 hv with hv | hv
          · exact hsm.out v hv
          · rw [List.mem_singleton] at hv; subst hv; exact hcl)⟩
        case measure => simp [intOf]; omega
    · obtain rfl : k = 4 := by omega
      have d1 : decide (((4 : Nat) : Int) < 4) = false := by decide
      go_wp2
      go_ret
      exact ⟨_, ts, rfl, hlen, hw1, hr1.mono (by omega), ho1, hsm.out⟩
end Go.Proofs.Ytkmoefgnejhpoaa
