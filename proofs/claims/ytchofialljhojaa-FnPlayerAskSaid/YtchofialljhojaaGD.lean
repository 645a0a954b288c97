/-
  'l11Ok': whether a player is ok, in the specification.
-/
import Derived.Test.YtchofialljhojaaGC
namespace Go.Proofs.Ytchofialljhojaa
open Go.RowKit Rg
set_option linter.unusedVariables false
set_option linter.unusedSimpArgs false

theorem hasFrom_take {xs : List ReplyT} {f : Int} {k : Nat} (h : ∀ j (h : j < xs.length), j < k → ¬ xs[j].1 = f) : hasFrom f (xs.take k) = false := by
  simp only [hasFrom, List.any_eq_false]
  intro x hx
  obtain ⟨j, hj, rfl⟩ := List.mem_iff_getElem.1 hx
  simp at hj ⊢
  exact h j (by omega) (by omega)
theorem hasFrom_yes {xs : List ReplyT} {f : Int} {k j : Nat} (hj : j < xs.length) (hjk : j < k) (h : xs[j].1 = f) : hasFrom f (xs.take k) = true :=
  List.any_eq_true.2 ⟨xs[j], List.mem_iff_getElem.2 ⟨j, by simp; omega, by simp⟩, by simp [h]⟩
set_option maxHeartbeats 4000000 in
theorem l11Ok_c (r : ReqV) (A : Option Addr) (n c lo hi : Nat) (xs : List ReplyT) (w : World) (hn : n = xs.length) (hb : n ≤ 1048576) (hs : Sl encReply 4 w lo hi A xs) (hhi : hi ≤ w.heap.size) :
    Calls Try.prog 51 #[.agg #[.int .i64 r.1, .int .i64 r.2.1, .int .i64 r.2.2.1, .int .i64 r.2.2.2.1, .int .i64 r.2.2.2.2, .slice A n c]] w fun e w' => e = .returned (.bool (decide (okPl r xs))) ∧ Below w.heap.size w w' := by
  have hn' := hide hn
  clear hn
  have hb0 : Below w.heap.size w (w.alloc (.cells #[.int .i64 r.1, .int .i64 r.2.1, .int .i64 r.2.2.1, .int .i64 r.2.2.2.1, .int .i64 r.2.2.2.2, .slice A n c] 32)) := (Below.refl _ _).alloc (Nat.le_refl _) _
  have x0 : (w.alloc (.cells #[.int .i64 r.1, .int .i64 r.2.1, .int .i64 r.2.2.1, .int .i64 r.2.2.2.1, .int .i64 r.2.2.2.2, .slice A n c] 32)).cell? ⟨w.heap.size, 0, none⟩ = some (.int .i64 r.1) := by simp
  have x1 : (w.alloc (.cells #[.int .i64 r.1, .int .i64 r.2.1, .int .i64 r.2.2.1, .int .i64 r.2.2.2.1, .int .i64 r.2.2.2.2, .slice A n c] 32)).cell? ⟨w.heap.size, 1, none⟩ = some (.int .i64 r.2.1) := by simp
  have x2 : (w.alloc (.cells #[.int .i64 r.1, .int .i64 r.2.1, .int .i64 r.2.2.1, .int .i64 r.2.2.2.1, .int .i64 r.2.2.2.2, .slice A n c] 32)).cell? ⟨w.heap.size, 2, none⟩ = some (.int .i64 r.2.2.1) := by simp
  have x3 : (w.alloc (.cells #[.int .i64 r.1, .int .i64 r.2.1, .int .i64 r.2.2.1, .int .i64 r.2.2.2.1, .int .i64 r.2.2.2.2, .slice A n c] 32)).cell? ⟨w.heap.size, 3, none⟩ = some (.int .i64 r.2.2.2.1) := by simp
  have x4 : (w.alloc (.cells #[.int .i64 r.1, .int .i64 r.2.1, .int .i64 r.2.2.1, .int .i64 r.2.2.2.1, .int .i64 r.2.2.2.2, .slice A n c] 32)).cell? ⟨w.heap.size, 4, none⟩ = some (.int .i64 r.2.2.2.2) := by simp
  have x5 : (w.alloc (.cells #[.int .i64 r.1, .int .i64 r.2.1, .int .i64 r.2.2.1, .int .i64 r.2.2.2.1, .int .i64 r.2.2.2.2, .slice A n c] 32)).cell? ⟨w.heap.size, 5, none⟩ = some (.slice A n c) := by simp
  have hl0 : w.heap.size < (w.alloc (.cells #[.int .i64 r.1, .int .i64 r.2.1, .int .i64 r.2.2.1, .int .i64 r.2.2.2.1, .int .i64 r.2.2.2.2, .slice A n c] 32)).heap.size := by simp
  go_enter Try.func51, Try.ntmps51
  go_wp2_with fail
  generalize w.alloc (.cells #[.int .i64 r.1, .int .i64 r.2.1, .int .i64 r.2.2.1, .int .i64 r.2.2.2.1, .int .i64 r.2.2.2.2, .slice A n c] 32) = w0 at *
  go_loopw [3, 4] (fun i _ wr => ∃ k : Nat, k ≤ n ∧ i = .int .i64 k ∧ Hid (∀ i, i < k → goodR r xs i) ∧ Below w0.heap.size w0 wr) (fun i _ _ => n - (intOf i).toNat)
  case atStart => exact ⟨0, Nat.zero_le _, rfl, fun i h => absurd h (by omega), Below.refl _ _⟩
  case round =>
    obtain ⟨k, hk, rfl, hgo, hbr⟩ := hrel
    have x5o := x5
    have hBr := hb0.trans (hbr.mono hb0.size)
    have x0 := keepc hbr x0
    have x1 := keepc hbr x1
    have x2 := keepc hbr x2
    have x3 := keepc hbr x3
    have x4 := keepc hbr x4
    have x5 := keepc hbr x5
    have hlr : w.heap.size < wr.heap.size := by have := hbr.size; omega
    by_cases hlt : k < n
    · have hlx : k < xs.length := by have := hn'.out; omega
      have hsr := hs.below hBr hhi
      obtain ⟨b, off, rfl, hlo, hbh⟩ := hs.addr hlx
      obtain ⟨a1, a2, a3, a4⟩ := hsr.getReply hlx
      have hbl : b < wr.heap.size := by omega
      have hfc := fun W => l11ReplyOk_c xs[k] W
      have hrest : fitsL r (xs.take k) xs[k] = (okRp xs[k] && (xs[k].2.1 == r.2.1 && !hasFrom xs[k].1 (xs.take k))) := rfl
      cases hf : okRp xs[k]
      · have hno := hide (not_okPl (r := r) hlx (fun ⟨_, h⟩ => by rw [hrest, hf] at h; cases h))
        simp only [hf] at hfc
        have hfc' := hide hfc
        clear hfc hrest
        go_wp2
        refine wp_region_T (fun _ => True) [] [] [] [0, 1, 2, 3, 4, 5, 6, 7, 8, 9, 10, 11, 12, 13, 14, 15, 16, 17, 18] (by kernel_rfl) (by kernel_rfl) (by kernel_rfl) trivial ?_; simp only [pickL, List.getElem?_cons_succ, List.getElem?_cons_zero]
        go_wp2_with (first
          | ((with_reducible refine wpT_q0 ?_ ?_ ?_ ?_); (focus rfl); (focus rfl); (focus rfl); intro K hK) | ((with_reducible refine wpT_x0 ?_ ?_ ?_); (focus rfl); (focus rfl); intro K hK) | ((with_reducible refine wpT_noL ?_ ?_); (focus (first | exact wanted_no _ _ _ rfl rfl rfl | exact wanted_un _ _ _ rfl rfl rfl)); simp only [setO, List.set_cons_succ, List.set_cons_zero]) | ((with_reducible refine wpT_q1 ?_ ?_ ?_ ?_); (focus exact wanted_yes _ _ _ rfl rfl rfl); (focus rfl); (focus rfl); intro K hK) | ((with_reducible refine wpT_x1 ?_ ?_ ?_); (focus exact wanted_yes _ _ _ rfl rfl rfl); (focus rfl); intro K hK) | ((with_reducible refine wpT_nil ?_); try dsimp only)
          | (go_at_call 64; refine (hfc'.out _).mono ?_; rintro e w2 ⟨rfl, hb2⟩))
        go_ret
        exact ⟨by rw [hno.out]; rfl, hBr.drew.trans (hb2.mono hBr.size)⟩
      · cases hq : (xs[k].2.1 == r.2.1)
        · have hq2 : (xs[k].2.1 != r.2.1) = true := by simpa using hq
          have hno := hide (not_okPl (r := r) hlx (fun ⟨_, h⟩ => by rw [hrest, hq] at h; simp at h))
          simp only [hf] at hfc
          have hfc' := hide hfc
          clear hfc hrest
          go_wp2
          refine wp_region_T (fun _ => True) [] [] [] [0, 1, 2, 3, 4, 5, 6, 7, 8, 9, 10, 11, 12, 13, 14, 15, 16, 17, 18] (by kernel_rfl) (by kernel_rfl) (by kernel_rfl) trivial ?_; simp only [pickL, List.getElem?_cons_succ, List.getElem?_cons_zero]
          go_wp2_with (first
            | ((with_reducible refine wpT_q0 ?_ ?_ ?_ ?_); (focus rfl); (focus rfl); (focus rfl); intro K hK) | ((with_reducible refine wpT_x0 ?_ ?_ ?_); (focus rfl); (focus rfl); intro K hK) | ((with_reducible refine wpT_noL ?_ ?_); (focus (first | exact wanted_no _ _ _ rfl rfl rfl | exact wanted_un _ _ _ rfl rfl rfl)); simp only [setO, List.set_cons_succ, List.set_cons_zero]) | ((with_reducible refine wpT_q1 ?_ ?_ ?_ ?_); (focus exact wanted_yes _ _ _ rfl rfl rfl); (focus rfl); (focus rfl); intro K hK) | ((with_reducible refine wpT_x1 ?_ ?_ ?_); (focus exact wanted_yes _ _ _ rfl rfl rfl); (focus rfl); intro K hK) | ((with_reducible refine wpT_nil ?_); try dsimp only)
            | (go_at_call 64; refine (hfc'.out _).mono ?_; rintro e w2 ⟨rfl, hb2⟩; have x0 := keepc (w := wr.drew) hb2 x0; have x1 := keepc (w := wr.drew) hb2 x1; have x2 := keepc (w := wr.drew) hb2 x2; have x3 := keepc (w := wr.drew) hb2 x3; have x4 := keepc (w := wr.drew) hb2 x4; have x5 := keepc (w := wr.drew) hb2 x5; have a1 := keepc (w := wr.drew) hb2 a1; have a2 := keepc (w := wr.drew) hb2 a2; have a3 := keepc (w := wr.drew) hb2 a3; have a4 := keepc (w := wr.drew) hb2 a4))
          go_ret
          exact ⟨by rw [hno.out]; rfl, hBr.drew.trans (hb2.mono hBr.size)⟩
        · have hq2 : (xs[k].2.1 != r.2.1) = false := by simpa using hq
          simp only [hf] at hfc
          have hfc' := hide hfc
          have hrest' := hide hrest
          have hf' := hide hf
          have hq' := hide hq
          clear hfc hrest
          go_wp2
          refine wp_region_T (fun _ => True) [] [] [] [0, 1, 2, 3, 4, 5, 6, 7, 8, 9, 10, 11, 12, 13, 14, 15, 16, 17, 18] (by kernel_rfl) (by kernel_rfl) (by kernel_rfl) trivial ?_; simp only [pickL, List.getElem?_cons_succ, List.getElem?_cons_zero]
          go_wp2_with (first
            | ((with_reducible refine wpT_q0 ?_ ?_ ?_ ?_); (focus rfl); (focus rfl); (focus rfl); intro K hK) | ((with_reducible refine wpT_x0 ?_ ?_ ?_); (focus rfl); (focus rfl); intro K hK) | ((with_reducible refine wpT_noL ?_ ?_); (focus (first | exact wanted_no _ _ _ rfl rfl rfl | exact wanted_un _ _ _ rfl rfl rfl)); simp only [setO, List.set_cons_succ, List.set_cons_zero]) | ((with_reducible refine wpT_q1 ?_ ?_ ?_ ?_); (focus exact wanted_yes _ _ _ rfl rfl rfl); (focus rfl); (focus rfl); intro K hK) | ((with_reducible refine wpT_x1 ?_ ?_ ?_); (focus exact wanted_yes _ _ _ rfl rfl rfl); (focus rfl); intro K hK) | ((with_reducible refine wpT_nil ?_); try dsimp only)
            | (go_at_call 64; refine (hfc'.out _).mono ?_; rintro e w2 ⟨rfl, hb2⟩; have x0 := keepc (w := wr.drew) hb2 x0; have x1 := keepc (w := wr.drew) hb2 x1; have x2 := keepc (w := wr.drew) hb2 x2; have x3 := keepc (w := wr.drew) hb2 x3; have x4 := keepc (w := wr.drew) hb2 x4; have x5 := keepc (w := wr.drew) hb2 x5; have a1 := keepc (w := wr.drew) hb2 a1; have a2 := keepc (w := wr.drew) hb2 a2; have a3 := keepc (w := wr.drew) hb2 a3; have a4 := keepc (w := wr.drew) hb2 a4))
          have hbr2 := hbr.drew.trans (hb2.mono hbr.size)
          go_loopw [4] (fun j wr => ∃ m : Nat, m ≤ k ∧ j = .int .i64 m ∧ Hid (∀ j (h : j < xs.length), j < m → ¬ xs[j].1 = xs[k].1) ∧ Below w0.heap.size w0 wr) (fun j _ => k - (intOf j).toNat)
          case atStart => exact ⟨0, Nat.zero_le _, rfl, hide (fun j h h' => absurd h' (by omega)), hbr2⟩
          case round =>
            obtain ⟨m, hm, rfl, hno, hbj⟩ := hrel
            have hBj := hb0.trans (hbj.mono hb0.size)
            by_cases hmk : m < k
            · have hmx : m < xs.length := by omega
              obtain ⟨a1, a2, a3, a4⟩ := (hs.below hBj hhi).getReply hlx
              obtain ⟨p1, p2, p3, p4⟩ := (hs.below hBj hhi).getReply hmx
              have y5 : wr.cell? ⟨w.heap.size, 5, none⟩ = some (.slice (some ⟨b, off, none⟩) n c) := keepc hbj x5o
              have hmk' := hide hmk
              cases he : (xs[m].1 == xs[k].1)
              · have he' := hide he
                go_wp2
                refine wp_region_T (fun _ => True) [] [] [] [0, 1, 2, 3, 4, 5, 6, 7, 8, 9, 10, 11, 12] (by kernel_rfl) (by kernel_rfl) (by kernel_rfl) trivial ?_; simp only [pickL, List.getElem?_cons_succ, List.getElem?_cons_zero]
                go_wp2_with (first
                  | ((with_reducible refine wpT_q0 ?_ ?_ ?_ ?_); (focus rfl); (focus rfl); (focus rfl); intro K hK) | ((with_reducible refine wpT_x0 ?_ ?_ ?_); (focus rfl); (focus rfl); intro K hK) | ((with_reducible refine wpT_noL ?_ ?_); (focus (first | exact wanted_no _ _ _ rfl rfl rfl | exact wanted_un _ _ _ rfl rfl rfl)); simp only [setO, List.set_cons_succ, List.set_cons_zero]) | ((with_reducible refine wpT_q1 ?_ ?_ ?_ ?_); (focus exact wanted_yes _ _ _ rfl rfl rfl); (focus rfl); (focus rfl); intro K hK) | ((with_reducible refine wpT_x1 ?_ ?_ ?_); (focus exact wanted_yes _ _ _ rfl rfl rfl); (focus rfl); intro K hK) | ((with_reducible refine wpT_nil ?_); try dsimp only)
                  | fail)
                go_roundw
                case rel => exact ⟨m + 1, by omega, by go_num, hide (fun j hj hjm h => by
                  by_cases h2 : j < m
                  · exact hno.out j hj h2 h
                  · obtain rfl : j = m := by omega
                    have := he'.out
                    simp [h] at this), hbj.drew⟩
                case measure => simp [intOf]; omega
              · have hbad := hide (not_okPl (r := r) hlx (fun ⟨_, h⟩ => by rw [hrest'.out, hasFrom_yes hmx hmk (by simpa using he)] at h; simp at h))
                go_wp2
                refine wp_region_T (fun _ => True) [] [] [] [0, 1, 2, 3, 4, 5, 6, 7, 8, 9, 10, 11, 12] (by kernel_rfl) (by kernel_rfl) (by kernel_rfl) trivial ?_; simp only [pickL, List.getElem?_cons_succ, List.getElem?_cons_zero]
                go_wp2_with (first
                  | ((with_reducible refine wpT_q0 ?_ ?_ ?_ ?_); (focus rfl); (focus rfl); (focus rfl); intro K hK) | ((with_reducible refine wpT_x0 ?_ ?_ ?_); (focus rfl); (focus rfl); intro K hK) | ((with_reducible refine wpT_noL ?_ ?_); (focus (first | exact wanted_no _ _ _ rfl rfl rfl | exact wanted_un _ _ _ rfl rfl rfl)); simp only [setO, List.set_cons_succ, List.set_cons_zero]) | ((with_reducible refine wpT_q1 ?_ ?_ ?_ ?_); (focus exact wanted_yes _ _ _ rfl rfl rfl); (focus rfl); (focus rfl); intro K hK) | ((with_reducible refine wpT_x1 ?_ ?_ ?_); (focus exact wanted_yes _ _ _ rfl rfl rfl); (focus rfl); intro K hK) | ((with_reducible refine wpT_nil ?_); try dsimp only)
                  | fail)
                go_ret
                exact ⟨by rw [hbad.out]; rfl, hBj.drew⟩
            · obtain rfl : m = k := by omega
              have hyes : Hid (goodR r xs m) := hide ⟨hlx, by rw [hrest'.out, hf'.out, hq'.out, hasFrom_take hno.out]; rfl⟩
              go_wp2
              go_roundw
              case rel => exact ⟨m + 1, by omega, by go_num, hide (goodR_all hgo.out hyes.out), hbj⟩
              case measure => simp [intOf]; omega
    · obtain rfl : k = n := by omega
      go_wp2_with fail
      refine (l1Ok_c r.1 r.2.1 r.2.2.1 r.2.2.2.1 r.2.2.2.2 wr).mono ?_
      rintro e w2 ⟨rfl, hb2⟩
      have hd : Hid (decide (okPl r xs) = okR r) := hide (by
        have h1 : ∀ i, i < xs.length → goodR r xs i := fun i hi => hgo.out i (by have := hn'.out; omega)
        rw [Bool.eq_iff_iff, decide_eq_true_eq]
        exact ⟨fun h => h.2, fun h => ⟨h1, h⟩⟩)
      go_wp2
      go_ret
      exact ⟨by rw [hd.out]; rfl, hBr.trans (hb2.mono hBr.size)⟩
end Go.Proofs.Ytchofialljhojaa
