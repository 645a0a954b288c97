/-
  'PlayerOk' in both packages.
-/
import Derived.Test.YtchofialljhojaaGB
namespace Go.Proofs.Ytchofialljhojaa
open Go.RowKit Rg
set_option linter.unusedVariables false
set_option linter.unusedSimpArgs false

def goodR (r : ReqV) (xs : List ReplyT) (i : Nat) : Prop := ∃ h : i < xs.length, fitsL r (xs.take i) xs[i] = true
def okPl (r : ReqV) (xs : List ReplyT) : Prop := (∀ i, i < xs.length → goodR r xs i) ∧ okR r = true
instance (r : ReqV) (xs : List ReplyT) (i : Nat) : Decidable (goodR r xs i) := by unfold goodR; infer_instance
instance (r : ReqV) (xs : List ReplyT) : Decidable (okPl r xs) := by unfold okPl; infer_instance
theorem not_okPl {r : ReqV} {xs : List ReplyT} {i : Nat} (hi : i < xs.length) (h : ¬ goodR r xs i) : decide (okPl r xs) = false := by
  simp only [decide_eq_false_iff_not]
  exact fun hq => h (hq.1 i hi)
theorem goodR_all {r : ReqV} {xs : List ReplyT} {k : Nat} (h : ∀ i, i < k → goodR r xs i) (hk : goodR r xs k) : ∀ i, i < k + 1 → goodR r xs i := fun i hi => by
  by_cases h2 : i < k
  · exact h i h2
  · obtain rfl : i = k := by omega
    exact hk

abbrev plV (r : ReqV) (A : Option Addr) (n c : Nat) : Value := .agg #[.int .i64 r.1, .int .i64 r.2.1, .int .i64 r.2.2.1, .int .i64 r.2.2.2.1, .int .i64 r.2.2.2.2, .slice A n c]
set_option maxHeartbeats 2000000 in
theorem PlayerOk_c (r : ReqV) (A : Option Addr) (n c lo hi : Nat) (xs : List ReplyT) (w : World) (hn : n = xs.length) (hb : n ≤ 1048576) (hc : n ≤ c) (hc2 : c ≤ maxLen) (hs : Sl encReply 4 w lo hi A xs) (hhi : hi ≤ w.heap.size) :
    Calls Try.prog 16 #[.agg #[.int .i64 r.1, .int .i64 r.2.1, .int .i64 r.2.2.1, .int .i64 r.2.2.2.1, .int .i64 r.2.2.2.2, .slice A n c]] w fun e w' => e = .returned (.bool (decide (okPl r xs))) ∧ Below w.heap.size w w' := by
  have hn' := hide hn
  clear hn
  unfold maxLen at hc2
  have hb0 : Below w.heap.size w (w.alloc (.cells #[.int .i64 r.1, .int .i64 r.2.1, .int .i64 r.2.2.1, .int .i64 r.2.2.2.1, .int .i64 r.2.2.2.2, .slice A n c] 32)) := (Below.refl _ _).alloc (Nat.le_refl _) _
  have x0 : (w.alloc (.cells #[.int .i64 r.1, .int .i64 r.2.1, .int .i64 r.2.2.1, .int .i64 r.2.2.2.1, .int .i64 r.2.2.2.2, .slice A n c] 32)).cell? ⟨w.heap.size, 0, none⟩ = some (.int .i64 r.1) := by simp
  have x1 : (w.alloc (.cells #[.int .i64 r.1, .int .i64 r.2.1, .int .i64 r.2.2.1, .int .i64 r.2.2.2.1, .int .i64 r.2.2.2.2, .slice A n c] 32)).cell? ⟨w.heap.size, 1, none⟩ = some (.int .i64 r.2.1) := by simp
  have x2 : (w.alloc (.cells #[.int .i64 r.1, .int .i64 r.2.1, .int .i64 r.2.2.1, .int .i64 r.2.2.2.1, .int .i64 r.2.2.2.2, .slice A n c] 32)).cell? ⟨w.heap.size, 2, none⟩ = some (.int .i64 r.2.2.1) := by simp
  have x3 : (w.alloc (.cells #[.int .i64 r.1, .int .i64 r.2.1, .int .i64 r.2.2.1, .int .i64 r.2.2.2.1, .int .i64 r.2.2.2.2, .slice A n c] 32)).cell? ⟨w.heap.size, 3, none⟩ = some (.int .i64 r.2.2.2.1) := by simp
  have x4 : (w.alloc (.cells #[.int .i64 r.1, .int .i64 r.2.1, .int .i64 r.2.2.1, .int .i64 r.2.2.2.1, .int .i64 r.2.2.2.2, .slice A n c] 32)).cell? ⟨w.heap.size, 4, none⟩ = some (.int .i64 r.2.2.2.2) := by simp
  have x5 : (w.alloc (.cells #[.int .i64 r.1, .int .i64 r.2.1, .int .i64 r.2.2.1, .int .i64 r.2.2.2.1, .int .i64 r.2.2.2.2, .slice A n c] 32)).cell? ⟨w.heap.size, 5, none⟩ = some (.slice A n c) := by simp
  have hl0 : w.heap.size < (w.alloc (.cells #[.int .i64 r.1, .int .i64 r.2.1, .int .i64 r.2.2.1, .int .i64 r.2.2.2.1, .int .i64 r.2.2.2.2, .slice A n c] 32)).heap.size := by simp
  go_enter Try.func16, Try.ntmps16
  go_wp2_with fail
  generalize w.alloc (.cells #[.int .i64 r.1, .int .i64 r.2.1, .int .i64 r.2.2.1, .int .i64 r.2.2.2.1, .int .i64 r.2.2.2.2, .slice A n c] 32) = w0 at *
  go_loopw [8, 3, 4] (fun i _ _ wr => ∃ k : Nat, k ≤ n ∧ i = .int .i64 k ∧ Hid (∀ i, i < k → goodR r xs i) ∧ Below w0.heap.size w0 wr) (fun i _ _ _ => n - (intOf i).toNat)
  case atStart => exact ⟨0, Nat.zero_le _, rfl, fun i h => absurd h (by omega), Below.refl _ _⟩
  case round =>
    obtain ⟨k, hk, rfl, hgo, hbr⟩ := hrel
    have hBr := hb0.trans (hbr.mono hb0.size)
    have x0 := keepc hbr x0
    have x1 := keepc hbr x1
    have x2 := keepc hbr x2
    have x3 := keepc hbr x3
    have x4 := keepc hbr x4
    have x5 := keepc hbr x5
    have hlr : w.heap.size < wr.heap.size := by have := hbr.size; omega
    by_cases hlt : k < n
    · have hlx : k < xs.length := by have := hn'.out; omega
      have hsr := hs.below hBr hhi
      obtain ⟨b, off, rfl, hlo, hbh⟩ := hs.addr hlx
      obtain ⟨a1, a2, a3, a4⟩ := hsr.getReply hlx
      have hbl : b < wr.heap.size := by omega
      have hA := (Below.refl wr.heap.size wr).alloc (Nat.le_refl _) (.cells #[.int .i64 xs[k].1, .int .i64 xs[k].2.1, .int .i64 xs[k].2.2.1, .int .i64 xs[k].2.2.2] 37)
      have hB1 := hBr.trans (hA.mono hBr.size)
      have hbr1 := hbr.trans (hA.mono hbr.size)
      have hs1 : Sl encReply 4 (wr.alloc (.cells #[.int .i64 xs[k].1, .int .i64 xs[k].2.1, .int .i64 xs[k].2.2.1, .int .i64 xs[k].2.2.2] 37)).drew lo hi (some ⟨b, off, none⟩) (xs.take k) := (hsr.take_ k).below hA.drew (Nat.le_trans hhi hBr.size)
      have y0 : (wr.alloc (.cells #[.int .i64 xs[k].1, .int .i64 xs[k].2.1, .int .i64 xs[k].2.2.1, .int .i64 xs[k].2.2.2] 37)).cell? ⟨wr.heap.size, 0, none⟩ = some (.int .i64 xs[k].1) := by simp
      have y1 : (wr.alloc (.cells #[.int .i64 xs[k].1, .int .i64 xs[k].2.1, .int .i64 xs[k].2.2.1, .int .i64 xs[k].2.2.2] 37)).cell? ⟨wr.heap.size, 1, none⟩ = some (.int .i64 xs[k].2.1) := by simp
      have y2 : (wr.alloc (.cells #[.int .i64 xs[k].1, .int .i64 xs[k].2.1, .int .i64 xs[k].2.2.1, .int .i64 xs[k].2.2.2] 37)).cell? ⟨wr.heap.size, 2, none⟩ = some (.int .i64 xs[k].2.2.1) := by simp
      have y3 : (wr.alloc (.cells #[.int .i64 xs[k].1, .int .i64 xs[k].2.1, .int .i64 xs[k].2.2.1, .int .i64 xs[k].2.2.2] 37)).cell? ⟨wr.heap.size, 3, none⟩ = some (.int .i64 xs[k].2.2.2) := by simp
      have x0 := keepc hA x0
      have x1 := keepc hA x1
      have x2 := keepc hA x2
      have x3 := keepc hA x3
      have x4 := keepc hA x4
      have x5 := keepc hA x5
      have hl1 : w.heap.size < (wr.alloc (.cells #[.int .i64 xs[k].1, .int .i64 xs[k].2.1, .int .i64 xs[k].2.2.1, .int .i64 xs[k].2.2.2] 37)).heap.size := by simp; omega
      have hl2 : wr.heap.size < (wr.alloc (.cells #[.int .i64 xs[k].1, .int .i64 xs[k].2.1, .int .i64 xs[k].2.2.1, .int .i64 xs[k].2.2.2] 37)).heap.size := by simp
      have hfc := fun W (h : Sl encReply 4 W lo hi (some ⟨b, off, none⟩) (xs.take k)) h2 => fits_c r (some ⟨b, off, none⟩) k c lo hi (xs.take k) xs[k] W (by have := hn'.out; simp; omega) (by omega) h h2
      have hhi1 : hi ≤ (wr.alloc (.cells #[.int .i64 xs[k].1, .int .i64 xs[k].2.1, .int .i64 xs[k].2.2.1, .int .i64 xs[k].2.2.2] 37)).drew.heap.size := by simp; have := hBr.size; omega
      cases hf : fitsL r (xs.take k) xs[k]
      · have hno := hide (not_okPl (r := r) hlx (fun ⟨_, h⟩ => by rw [hf] at h; cases h))
        simp only [hf] at hfc
        have hfc' := hide hfc
        clear hfc
        go_wp2
        generalize wr.alloc (.cells #[.int .i64 xs[k].1, .int .i64 xs[k].2.1, .int .i64 xs[k].2.2.1, .int .i64 xs[k].2.2.2] 37) = w1 at *
        refine wp_region_T (fun _ => True) [] [] [] [0, 1, 2, 3, 4, 5, 6, 7, 8, 9] (by kernel_rfl) (by kernel_rfl) (by kernel_rfl) trivial ?_; simp only [pickL, List.getElem?_cons_succ, List.getElem?_cons_zero]
        go_wp2_with (first
          | ((with_reducible refine wpT_q0 ?_ ?_ ?_ ?_); (focus rfl); (focus rfl); (focus rfl); intro K hK) | ((with_reducible refine wpT_x0 ?_ ?_ ?_); (focus rfl); (focus rfl); intro K hK) | ((with_reducible refine wpT_noL ?_ ?_); (focus (first | exact wanted_no _ _ _ rfl rfl rfl | exact wanted_un _ _ _ rfl rfl rfl)); simp only [setO, List.set_cons_succ, List.set_cons_zero]) | ((with_reducible refine wpT_q1 ?_ ?_ ?_ ?_); (focus exact wanted_yes _ _ _ rfl rfl rfl); (focus rfl); (focus rfl); intro K hK) | ((with_reducible refine wpT_x1 ?_ ?_ ?_); (focus exact wanted_yes _ _ _ rfl rfl rfl); (focus rfl); intro K hK) | ((with_reducible refine wpT_nil ?_); try dsimp only)
          | (go_at_call 53; refine (hfc'.out _ hs1 hhi1).mono ?_; rintro e w2 ⟨rfl, hb2⟩))
        go_ret
        exact ⟨by rw [hno.out]; rfl, hB1.drew.trans (hb2.mono hB1.size)⟩
      · have hyes : Hid (goodR r xs k) := hide ⟨hlx, hf⟩
        simp only [hf] at hfc
        have hfc' := hide hfc
        clear hfc
        go_wp2
        generalize wr.alloc (.cells #[.int .i64 xs[k].1, .int .i64 xs[k].2.1, .int .i64 xs[k].2.2.1, .int .i64 xs[k].2.2.2] 37) = w1 at *
        refine wp_region_T (fun _ => True) [] [] [] [0, 1, 2, 3, 4, 5, 6, 7, 8, 9] (by kernel_rfl) (by kernel_rfl) (by kernel_rfl) trivial ?_; simp only [pickL, List.getElem?_cons_succ, List.getElem?_cons_zero]
        go_wp2_with (first
          | ((with_reducible refine wpT_q0 ?_ ?_ ?_ ?_); (focus rfl); (focus rfl); (focus rfl); intro K hK) | ((with_reducible refine wpT_x0 ?_ ?_ ?_); (focus rfl); (focus rfl); intro K hK) | ((with_reducible refine wpT_noL ?_ ?_); (focus (first | exact wanted_no _ _ _ rfl rfl rfl | exact wanted_un _ _ _ rfl rfl rfl)); simp only [setO, List.set_cons_succ, List.set_cons_zero]) | ((with_reducible refine wpT_q1 ?_ ?_ ?_ ?_); (focus exact wanted_yes _ _ _ rfl rfl rfl); (focus rfl); (focus rfl); intro K hK) | ((with_reducible refine wpT_x1 ?_ ?_ ?_); (focus exact wanted_yes _ _ _ rfl rfl rfl); (focus rfl); intro K hK) | ((with_reducible refine wpT_nil ?_); try dsimp only)
          | (go_at_call 53; refine (hfc'.out _ hs1 hhi1).mono ?_; rintro e w2 ⟨rfl, hb2⟩))
        go_roundw
        case rel => exact ⟨k + 1, by omega, by go_num, hide (goodR_all hgo.out hyes.out), hbr1.drew.trans (hb2.mono hbr1.size)⟩
        case measure => simp [intOf]; omega
    · obtain rfl : k = n := by omega
      go_wp2_with fail
      refine (ReqOk_c r.1 r.2.1 r.2.2.1 r.2.2.2.1 r.2.2.2.2 wr).mono ?_
      rintro e w2 ⟨rfl, hb2⟩
      have hd : Hid (decide (okPl r xs) = okR r) := hide (by
        have h1 : ∀ i, i < xs.length → goodR r xs i := fun i hi => hgo.out i (by have := hn'.out; omega)
        rw [Bool.eq_iff_iff, decide_eq_true_eq]
        exact ⟨fun h => h.2, fun h => ⟨h1, h⟩⟩)
      go_wp2
      go_ret
      exact ⟨by rw [hd.out]; rfl, hBr.trans (hb2.mono hBr.size)⟩
end Go.Proofs.Ytchofialljhojaa
