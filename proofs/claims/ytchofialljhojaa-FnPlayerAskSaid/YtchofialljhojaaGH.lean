/-
  'PlayerSure' in both packages: what it answers.
-/
import Derived.Test.YtchofialljhojaaGD
import Derived.Test.YtchofialljhojaaGF
namespace Go.Proofs.Ytchofialljhojaa
open Go.RowKit Rg
set_option linter.unusedVariables false
set_option linter.unusedSimpArgs false

/-- Two answers alike. -/
def alike (x t : ReplyT) : Bool := (x.2.2.1 == t.2.2.1) && (x.2.2.2 == t.2.2.2)
/-- How many answered so. -/
def most (xs : List ReplyT) (t : ReplyT) : Nat := (xs.filter fun x => alike x t).length
theorem most_le (xs : List ReplyT) (t : ReplyT) : most xs t ≤ xs.length := List.length_filter_le _ _
theorem most_step {xs : List ReplyT} {t : ReplyT} {k m : Nat} (hk : k < xs.length) (h : most xs t = m + most (xs.drop k) t) : most xs t = (if alike xs[k] t = true then m + 1 else m) + most (xs.drop (k + 1)) t := by
  rw [h, most, List.drop_eq_getElem_cons hk, List.filter_cons]
  split
  · simp [most]; omega
  · simp [most]
/-- What 'PlayerSure' answers. -/
def sureF (xs : List ReplyT) (ys : List ReplyT) : ReplyT × Bool := match ys.find? (fun t => decide (2 ≤ most xs t)) with
  | some t => (t, true)
  | none => ((0, 0, 0, 0), false)
def sureL (r : ReqV) (xs : List ReplyT) : ReplyT × Bool := if okPl r xs then sureF xs xs else ((0, 0, 0, 0), false)
theorem sureF_no {xs : List ReplyT} {k : Nat} (hk : k < xs.length) (h : ¬ 2 ≤ most xs xs[k]) : sureF xs (xs.drop k) = sureF xs (xs.drop (k + 1)) := by
  unfold sureF
  rw [List.drop_eq_getElem_cons hk, List.find?_cons]
  simp [h]
theorem sureF_yes {xs : List ReplyT} {k : Nat} (hk : k < xs.length) (h : 2 ≤ most xs xs[k]) : sureF xs (xs.drop k) = (xs[k], true) := by
  unfold sureF
  rw [List.drop_eq_getElem_cons hk, List.find?_cons]
  simp [h]
theorem sureF_end {xs : List ReplyT} {k : Nat} (hk : xs.length ≤ k) : sureF xs (xs.drop k) = ((0, 0, 0, 0), false) := by
  unfold sureF
  rw [List.drop_of_length_le hk]
  rfl
theorem sureL_not {r : ReqV} {xs : List ReplyT} (h : decide (okPl r xs) = false) : sureL r xs = ((0, 0, 0, 0), false) := by
  simp at h; simp [sureL, h]
theorem sureL_ok {r : ReqV} {xs : List ReplyT} (h : decide (okPl r xs) = true) : sureL r xs = sureF xs (xs.drop 0) := by
  simp at h; simp [sureL, h]

set_option maxHeartbeats 2000000 in
theorem l11Most_c (r : ReqV) (A : Option Addr) (n c lo hi : Nat) (xs : List ReplyT) (t : ReplyT) (w : World) (hn : n = xs.length) (hb : n ≤ 1048576) (hs : Sl encReply 4 w lo hi A xs) (hhi : hi ≤ w.heap.size) :
    Calls Try.prog 57 #[.agg #[.int .i64 r.1, .int .i64 r.2.1, .int .i64 r.2.2.1, .int .i64 r.2.2.2.1, .int .i64 r.2.2.2.2, .slice A n c], .agg #[.int .i64 t.1, .int .i64 t.2.1, .int .i64 t.2.2.1, .int .i64 t.2.2.2]] w fun e w' => e = .returned (.int .i64 (most xs t : Nat)) ∧ Below w.heap.size w w' := by
  have hn' := hide hn
  clear hn
  have hb0 : Below w.heap.size w ((w.alloc (.cells #[.int .i64 r.1, .int .i64 r.2.1, .int .i64 r.2.2.1, .int .i64 r.2.2.2.1, .int .i64 r.2.2.2.2, .slice A n c] 32)).alloc (.cells #[.int .i64 t.1, .int .i64 t.2.1, .int .i64 t.2.2.1, .int .i64 t.2.2.2] 37)) := ((Below.refl _ _).alloc (Nat.le_refl _) _).alloc (by simp) _
  obtain ⟨t1, t2, t4⟩ := heap2 w (.cells #[.int .i64 r.1, .int .i64 r.2.1, .int .i64 r.2.2.1, .int .i64 r.2.2.2.1, .int .i64 r.2.2.2.2, .slice A n c] 32) (.cells #[.int .i64 t.1, .int .i64 t.2.1, .int .i64 t.2.2.1, .int .i64 t.2.2.2] 37)
  have x5 : ((w.alloc (.cells #[.int .i64 r.1, .int .i64 r.2.1, .int .i64 r.2.2.1, .int .i64 r.2.2.2.1, .int .i64 r.2.2.2.2, .slice A n c] 32)).alloc (.cells #[.int .i64 t.1, .int .i64 t.2.1, .int .i64 t.2.2.1, .int .i64 t.2.2.2] 37)).cell? ⟨w.heap.size, 5, none⟩ = some (.slice A n c) := by simp only [World.cell?, t1]; rfl
  have y2 : ((w.alloc (.cells #[.int .i64 r.1, .int .i64 r.2.1, .int .i64 r.2.2.1, .int .i64 r.2.2.2.1, .int .i64 r.2.2.2.2, .slice A n c] 32)).alloc (.cells #[.int .i64 t.1, .int .i64 t.2.1, .int .i64 t.2.2.1, .int .i64 t.2.2.2] 37)).cell? ⟨w.heap.size + 1, 2, none⟩ = some (.int .i64 t.2.2.1) := by simp only [World.cell?, t2]; rfl
  have y3 : ((w.alloc (.cells #[.int .i64 r.1, .int .i64 r.2.1, .int .i64 r.2.2.1, .int .i64 r.2.2.2.1, .int .i64 r.2.2.2.2, .slice A n c] 32)).alloc (.cells #[.int .i64 t.1, .int .i64 t.2.1, .int .i64 t.2.2.1, .int .i64 t.2.2.2] 37)).cell? ⟨w.heap.size + 1, 3, none⟩ = some (.int .i64 t.2.2.2) := by simp only [World.cell?, t2]; rfl
  clear t1 t2 t4
  have hml := most_le xs t
  go_enter Try.func57, Try.ntmps57
  go_wp2_with fail
  generalize (w.alloc (.cells #[.int .i64 r.1, .int .i64 r.2.1, .int .i64 r.2.2.1, .int .i64 r.2.2.2.1, .int .i64 r.2.2.2.2, .slice A n c] 32)).alloc (.cells #[.int .i64 t.1, .int .i64 t.2.1, .int .i64 t.2.2.1, .int .i64 t.2.2.2] 37) = w0 at *
  go_loopw [5, 6] (fun mv iv wr => ∃ k m : Nat, k ≤ n ∧ m ≤ k ∧ iv = .int .i64 k ∧ mv = .int .i64 m ∧ Hid (most xs t = m + most (xs.drop k) t) ∧ Below w0.heap.size w0 wr) (fun _ iv _ => n - (intOf iv).toNat)
  case atStart => exact ⟨0, 0, Nat.zero_le _, Nat.le_refl _, rfl, rfl, hide (by simp), Below.refl _ _⟩
  case round =>
    obtain ⟨k, m, hk, hmk, rfl, rfl, hms, hbr⟩ := hrel
    have hBr := hb0.trans (hbr.mono hb0.size)
    have x5 := keepc hbr x5
    have y2 := keepc hbr y2
    have y3 := keepc hbr y3
    by_cases hlt : k < n
    · have hlx : k < xs.length := by have := hn'.out; omega
      obtain ⟨b, off, rfl, hlo, hbh⟩ := hs.addr hlx
      obtain ⟨a1, a2, a3, a4⟩ := (hs.below hBr hhi).getReply hlx
      have hst := hide (most_step hlx hms.out)
      cases e1 : (xs[k].2.2.1 == t.2.2.1)
      · have hno : Hid (alike xs[k] t = false) := hide (by simp [alike, e1])
        go_wp2
        refine wp_region_T (fun _ => True) [] [] [] [0, 1, 2, 3, 4, 5, 6, 7, 8, 9, 10, 11, 12, 13, 14, 15, 16, 17, 18, 19] (by kernel_rfl) (by kernel_rfl) (by kernel_rfl) trivial ?_; simp only [pickL, List.getElem?_cons_succ, List.getElem?_cons_zero]
        go_wp2_with (first
          | ((with_reducible refine wpT_q0 ?_ ?_ ?_ ?_); (focus rfl); (focus rfl); (focus rfl); intro K hK) | ((with_reducible refine wpT_x0 ?_ ?_ ?_); (focus rfl); (focus rfl); intro K hK) | ((with_reducible refine wpT_noL ?_ ?_); (focus (first | exact wanted_no _ _ _ rfl rfl rfl | exact wanted_un _ _ _ rfl rfl rfl)); simp only [setO, List.set_cons_succ, List.set_cons_zero]) | ((with_reducible refine wpT_q1 ?_ ?_ ?_ ?_); (focus exact wanted_yes _ _ _ rfl rfl rfl); (focus rfl); (focus rfl); intro K hK) | ((with_reducible refine wpT_x1 ?_ ?_ ?_); (focus exact wanted_yes _ _ _ rfl rfl rfl); (focus rfl); intro K hK) | ((with_reducible refine wpT_nil ?_); try dsimp only)
          | fail)
        go_roundw
        case rel => exact ⟨k + 1, m, by omega, by omega, by go_num, rfl, hide (by have := hst.out; rw [hno.out] at this; simpa using this), hbr.drew⟩
        case measure => simp [intOf]; omega
      · cases e2 : (xs[k].2.2.2 == t.2.2.2)
        · have hno : Hid (alike xs[k] t = false) := hide (by simp [alike, e2])
          go_wp2
          refine wp_region_T (fun _ => True) [] [] [] [0, 1, 2, 3, 4, 5, 6, 7, 8, 9, 10, 11, 12, 13, 14, 15, 16, 17, 18, 19] (by kernel_rfl) (by kernel_rfl) (by kernel_rfl) trivial ?_; simp only [pickL, List.getElem?_cons_succ, List.getElem?_cons_zero]
          go_wp2_with (first
            | ((with_reducible refine wpT_q0 ?_ ?_ ?_ ?_); (focus rfl); (focus rfl); (focus rfl); intro K hK) | ((with_reducible refine wpT_x0 ?_ ?_ ?_); (focus rfl); (focus rfl); intro K hK) | ((with_reducible refine wpT_noL ?_ ?_); (focus (first | exact wanted_no _ _ _ rfl rfl rfl | exact wanted_un _ _ _ rfl rfl rfl)); simp only [setO, List.set_cons_succ, List.set_cons_zero]) | ((with_reducible refine wpT_q1 ?_ ?_ ?_ ?_); (focus exact wanted_yes _ _ _ rfl rfl rfl); (focus rfl); (focus rfl); intro K hK) | ((with_reducible refine wpT_x1 ?_ ?_ ?_); (focus exact wanted_yes _ _ _ rfl rfl rfl); (focus rfl); intro K hK) | ((with_reducible refine wpT_nil ?_); try dsimp only)
            | fail)
          go_roundw
          case rel => exact ⟨k + 1, m, by omega, by omega, by go_num, rfl, hide (by have := hst.out; rw [hno.out] at this; simpa using this), hbr.drew⟩
          case measure => simp [intOf]; omega
        · have hno : Hid (alike xs[k] t = true) := hide (by simp only [alike, e1, e2]; rfl)
          go_wp2
          refine wp_region_T (fun _ => True) [] [] [] [0, 1, 2, 3, 4, 5, 6, 7, 8, 9, 10, 11, 12, 13, 14, 15, 16, 17, 18, 19] (by kernel_rfl) (by kernel_rfl) (by kernel_rfl) trivial ?_; simp only [pickL, List.getElem?_cons_succ, List.getElem?_cons_zero]
          go_wp2_with (first
            | ((with_reducible refine wpT_q0 ?_ ?_ ?_ ?_); (focus rfl); (focus rfl); (focus rfl); intro K hK) | ((with_reducible refine wpT_x0 ?_ ?_ ?_); (focus rfl); (focus rfl); intro K hK) | ((with_reducible refine wpT_noL ?_ ?_); (focus (first | exact wanted_no _ _ _ rfl rfl rfl | exact wanted_un _ _ _ rfl rfl rfl)); simp only [setO, List.set_cons_succ, List.set_cons_zero]) | ((with_reducible refine wpT_q1 ?_ ?_ ?_ ?_); (focus exact wanted_yes _ _ _ rfl rfl rfl); (focus rfl); (focus rfl); intro K hK) | ((with_reducible refine wpT_x1 ?_ ?_ ?_); (focus exact wanted_yes _ _ _ rfl rfl rfl); (focus rfl); intro K hK) | ((with_reducible refine wpT_nil ?_); try dsimp only)
            | fail)
          go_roundw
          case rel => exact ⟨k + 1, m + 1, by omega, by omega, by go_num, by go_num, hide (by have := hst.out; rw [hno.out] at this; simpa using this), hbr.drew⟩
          case measure => simp [intOf]; omega
    · obtain rfl : k = n := by omega
      have hf : Hid (most xs t = m) := hide (by rw [hms.out, List.drop_of_length_le (by have := hn'.out; omega)]; rfl)
      go_wp2
      go_ret
      exact ⟨by rw [hf.out]; rfl, hBr⟩

set_option maxHeartbeats 4000000 in
theorem specPlayerSure_c (r : ReqV) (A : Option Addr) (n c lo hi : Nat) (xs : List ReplyT) (w : World) (hn : n = xs.length) (hb : n ≤ 1048576) (hc : n ≤ c) (hc2 : c ≤ maxLen) (hs : Sl encReply 4 w lo hi A xs) (hhi : hi ≤ w.heap.size) :
    Calls Try.prog 18 #[.agg #[.int .i64 r.1, .int .i64 r.2.1, .int .i64 r.2.2.1, .int .i64 r.2.2.2.1, .int .i64 r.2.2.2.2, .slice A n c]] w fun e w' => e = .returned (.tuple #[.agg #[.int .i64 (sureL r xs).1.1, .int .i64 (sureL r xs).1.2.1, .int .i64 (sureL r xs).1.2.2.1, .int .i64 (sureL r xs).1.2.2.2], .bool (sureL r xs).2]) ∧ Below w.heap.size w w' := by
  have hn' := hide hn
  clear hn
  have hb0 : Below w.heap.size w ((w.alloc (.cells #[.int .i64 r.1, .int .i64 r.2.1, .int .i64 r.2.2.1, .int .i64 r.2.2.2.1, .int .i64 r.2.2.2.2, .slice A n c] 32)).alloc (.cells #[.int .i64 0, .int .i64 0, .int .i64 0, .int .i64 0] 37)) := ((Below.refl _ _).alloc (Nat.le_refl _) _).alloc (by simp) _
  obtain ⟨t1, t2, t4⟩ := heap2 w (.cells #[.int .i64 r.1, .int .i64 r.2.1, .int .i64 r.2.2.1, .int .i64 r.2.2.2.1, .int .i64 r.2.2.2.2, .slice A n c] 32) (.cells #[.int .i64 0, .int .i64 0, .int .i64 0, .int .i64 0] 37)
  have x0 : ((w.alloc (.cells #[.int .i64 r.1, .int .i64 r.2.1, .int .i64 r.2.2.1, .int .i64 r.2.2.2.1, .int .i64 r.2.2.2.2, .slice A n c] 32)).alloc (.cells #[.int .i64 0, .int .i64 0, .int .i64 0, .int .i64 0] 37)).cell? ⟨w.heap.size, 0, none⟩ = some (.int .i64 r.1) := by simp only [World.cell?, t1]; rfl
  have x1 : ((w.alloc (.cells #[.int .i64 r.1, .int .i64 r.2.1, .int .i64 r.2.2.1, .int .i64 r.2.2.2.1, .int .i64 r.2.2.2.2, .slice A n c] 32)).alloc (.cells #[.int .i64 0, .int .i64 0, .int .i64 0, .int .i64 0] 37)).cell? ⟨w.heap.size, 1, none⟩ = some (.int .i64 r.2.1) := by simp only [World.cell?, t1]; rfl
  have x2 : ((w.alloc (.cells #[.int .i64 r.1, .int .i64 r.2.1, .int .i64 r.2.2.1, .int .i64 r.2.2.2.1, .int .i64 r.2.2.2.2, .slice A n c] 32)).alloc (.cells #[.int .i64 0, .int .i64 0, .int .i64 0, .int .i64 0] 37)).cell? ⟨w.heap.size, 2, none⟩ = some (.int .i64 r.2.2.1) := by simp only [World.cell?, t1]; rfl
  have x3 : ((w.alloc (.cells #[.int .i64 r.1, .int .i64 r.2.1, .int .i64 r.2.2.1, .int .i64 r.2.2.2.1, .int .i64 r.2.2.2.2, .slice A n c] 32)).alloc (.cells #[.int .i64 0, .int .i64 0, .int .i64 0, .int .i64 0] 37)).cell? ⟨w.heap.size, 3, none⟩ = some (.int .i64 r.2.2.2.1) := by simp only [World.cell?, t1]; rfl
  have x4 : ((w.alloc (.cells #[.int .i64 r.1, .int .i64 r.2.1, .int .i64 r.2.2.1, .int .i64 r.2.2.2.1, .int .i64 r.2.2.2.2, .slice A n c] 32)).alloc (.cells #[.int .i64 0, .int .i64 0, .int .i64 0, .int .i64 0] 37)).cell? ⟨w.heap.size, 4, none⟩ = some (.int .i64 r.2.2.2.2) := by simp only [World.cell?, t1]; rfl
  have x5 : ((w.alloc (.cells #[.int .i64 r.1, .int .i64 r.2.1, .int .i64 r.2.2.1, .int .i64 r.2.2.2.1, .int .i64 r.2.2.2.2, .slice A n c] 32)).alloc (.cells #[.int .i64 0, .int .i64 0, .int .i64 0, .int .i64 0] 37)).cell? ⟨w.heap.size, 5, none⟩ = some (.slice A n c) := by simp only [World.cell?, t1]; rfl
  have qz0 : ((w.alloc (.cells #[.int .i64 r.1, .int .i64 r.2.1, .int .i64 r.2.2.1, .int .i64 r.2.2.2.1, .int .i64 r.2.2.2.2, .slice A n c] 32)).alloc (.cells #[.int .i64 0, .int .i64 0, .int .i64 0, .int .i64 0] 37)).cell? ⟨w.heap.size + 1, 0, none⟩ = some (.int .i64 0) := by simp only [World.cell?, t2]; rfl
  have qz1 : ((w.alloc (.cells #[.int .i64 r.1, .int .i64 r.2.1, .int .i64 r.2.2.1, .int .i64 r.2.2.2.1, .int .i64 r.2.2.2.2, .slice A n c] 32)).alloc (.cells #[.int .i64 0, .int .i64 0, .int .i64 0, .int .i64 0] 37)).cell? ⟨w.heap.size + 1, 1, none⟩ = some (.int .i64 0) := by simp only [World.cell?, t2]; rfl
  have qz2 : ((w.alloc (.cells #[.int .i64 r.1, .int .i64 r.2.1, .int .i64 r.2.2.1, .int .i64 r.2.2.2.1, .int .i64 r.2.2.2.2, .slice A n c] 32)).alloc (.cells #[.int .i64 0, .int .i64 0, .int .i64 0, .int .i64 0] 37)).cell? ⟨w.heap.size + 1, 2, none⟩ = some (.int .i64 0) := by simp only [World.cell?, t2]; rfl
  have qz3 : ((w.alloc (.cells #[.int .i64 r.1, .int .i64 r.2.1, .int .i64 r.2.2.1, .int .i64 r.2.2.2.1, .int .i64 r.2.2.2.2, .slice A n c] 32)).alloc (.cells #[.int .i64 0, .int .i64 0, .int .i64 0, .int .i64 0] 37)).cell? ⟨w.heap.size + 1, 3, none⟩ = some (.int .i64 0) := by simp only [World.cell?, t2]; rfl
  have f0 : ((w.alloc (.cells #[.int .i64 r.1, .int .i64 r.2.1, .int .i64 r.2.2.1, .int .i64 r.2.2.2.1, .int .i64 r.2.2.2.2, .slice A n c] 32)).alloc (.cells #[.int .i64 0, .int .i64 0, .int .i64 0, .int .i64 0] 37)).frozen? ⟨w.heap.size + 1, 0, none⟩ = false := by simp only [World.frozen?, t2]; simp
  have f1 : ((w.alloc (.cells #[.int .i64 r.1, .int .i64 r.2.1, .int .i64 r.2.2.1, .int .i64 r.2.2.2.1, .int .i64 r.2.2.2.2, .slice A n c] 32)).alloc (.cells #[.int .i64 0, .int .i64 0, .int .i64 0, .int .i64 0] 37)).frozen? ⟨w.heap.size + 1, 1, none⟩ = false := by simp only [World.frozen?, t2]; simp
  have f2 : ((w.alloc (.cells #[.int .i64 r.1, .int .i64 r.2.1, .int .i64 r.2.2.1, .int .i64 r.2.2.2.1, .int .i64 r.2.2.2.2, .slice A n c] 32)).alloc (.cells #[.int .i64 0, .int .i64 0, .int .i64 0, .int .i64 0] 37)).frozen? ⟨w.heap.size + 1, 2, none⟩ = false := by simp only [World.frozen?, t2]; simp
  have f3 : ((w.alloc (.cells #[.int .i64 r.1, .int .i64 r.2.1, .int .i64 r.2.2.1, .int .i64 r.2.2.2.1, .int .i64 r.2.2.2.2, .slice A n c] 32)).alloc (.cells #[.int .i64 0, .int .i64 0, .int .i64 0, .int .i64 0] 37)).frozen? ⟨w.heap.size + 1, 3, none⟩ = false := by simp only [World.frozen?, t2]; simp
  have hl0 : w.heap.size + 1 < ((w.alloc (.cells #[.int .i64 r.1, .int .i64 r.2.1, .int .i64 r.2.2.1, .int .i64 r.2.2.2.1, .int .i64 r.2.2.2.2, .slice A n c] 32)).alloc (.cells #[.int .i64 0, .int .i64 0, .int .i64 0, .int .i64 0] 37)).heap.size := by rw [t4]; omega
  clear t1 t2 t4
  go_enter Try.func18, Try.ntmps18
  go_wp2_with fail
  generalize (w.alloc (.cells #[.int .i64 r.1, .int .i64 r.2.1, .int .i64 r.2.2.1, .int .i64 r.2.2.2.1, .int .i64 r.2.2.2.2, .slice A n c] 32)).alloc (.cells #[.int .i64 0, .int .i64 0, .int .i64 0, .int .i64 0] 37) = w0 at *
  refine (l11Ok_c r A n c lo hi xs w0 hn'.out hb (hs.below hb0 hhi) (Nat.le_trans hhi hb0.size)).mono ?_
  rintro e w1 ⟨rfl, hb1⟩
  have hB1 := hb0.trans (hb1.mono hb0.size)
  have x0 := keepc hb1 x0
  have x1 := keepc hb1 x1
  have x2 := keepc hb1 x2
  have x3 := keepc hb1 x3
  have x4 := keepc hb1 x4
  have x5 := keepc hb1 x5
  have qz0 := keepc hb1 qz0
  have qz1 := keepc hb1 qz1
  have qz2 := keepc hb1 qz2
  have qz3 := keepc hb1 qz3
  have f0 := keepf hb1 (by omega) f0
  have f1 := keepf hb1 (by omega) f1
  have f2 := keepf hb1 (by omega) f2
  have f3 := keepf hb1 (by omega) f3
  have hl1 : w.heap.size + 1 < w1.heap.size := lt_of_cell qz0
  have fin : ∀ (wz : World) (t : ReplyT), Below w.heap.size w wz → Below w.heap.size w ((((wz.setCell ⟨w.heap.size + 1, 0, none⟩ (.int .i64 t.1)).setCell ⟨w.heap.size + 1, 1, none⟩ (.int .i64 t.2.1)).setCell ⟨w.heap.size + 1, 2, none⟩ (.int .i64 t.2.2.1)).setCell ⟨w.heap.size + 1, 3, none⟩ (.int .i64 t.2.2.2)) :=
    fun wz t h => h.trans (((((Below.refl w.heap.size wz).setCell (by simp) _).setCell (by simp) _).setCell (by simp) _).setCell (by simp) _)
  have fin' := hide fin
  clear fin
  cases e1 : decide (okPl r xs)
  · have hno := hide (sureL_not e1)
    go_wp2
    refine bodyPost_ret (v := .tuple #[.agg #[.int .i64 0, .int .i64 0, .int .i64 0, .int .i64 0], .bool false]) (by simp [results, Try.results18, go_sem, qz0, qz1, qz2, qz3]) rfl ⟨by rw [hno.out], fin'.out w1 (0, 0, 0, 0) hB1⟩
  · have hyes := hide (sureL_ok e1)
    go_wp2_with fail
    go_loopw [4] (fun iv wr => ∃ k : Nat, k ≤ n ∧ iv = .int .i64 k ∧ Hid (sureF xs (xs.drop 0) = sureF xs (xs.drop k)) ∧ Below w1.heap.size w1 wr) (fun iv _ => n - (intOf iv).toNat)
    case atStart => exact ⟨0, Nat.zero_le _, rfl, rfl, Below.refl _ _⟩
    case round =>
     obtain ⟨k, hk, rfl, hfd, hbr⟩ := hrel
     have hBr := hB1.trans (hbr.mono hB1.size)
     have x0 := keepc hbr x0
     have x1 := keepc hbr x1
     have x2 := keepc hbr x2
     have x3 := keepc hbr x3
     have x4 := keepc hbr x4
     have x5 := keepc hbr x5
     have qz0 := keepc hbr qz0
     have qz1 := keepc hbr qz1
     have qz2 := keepc hbr qz2
     have qz3 := keepc hbr qz3
     have f0 := keepf hbr (by omega) f0
     have f1 := keepf hbr (by omega) f1
     have f2 := keepf hbr (by omega) f2
     have f3 := keepf hbr (by omega) f3
     have hlr : w.heap.size + 1 < wr.heap.size := lt_of_cell qz0
     by_cases hlt : k < n
     · have hlx : k < xs.length := by have := hn'.out; omega
       have hsr := hs.below hBr hhi
       have hhr : hi ≤ wr.heap.size := Nat.le_trans hhi hBr.size
       have hsr' : Sl encReply 4 wr.drew lo hi A xs := hsr
       have hhr' : hi ≤ wr.drew.heap.size := hhr
       have hml := most_le xs xs[k]
       obtain ⟨b, off, rfl, hlo, hbh⟩ := hs.addr hlx
       obtain ⟨a1, a2, a3, a4⟩ := hsr.getReply hlx
       have hbl : b < wr.heap.size := by omega
       by_cases h2 : 2 ≤ most xs xs[k]
       · have d2 : decide (2 ≤ (most xs xs[k] : Int)) = true := by simp; omega
         have hfo : Hid (sureL r xs = (xs[k], true)) := hide (by rw [hyes.out, hfd.out, sureF_yes hlx h2])
         clear h2
         go_wp2
         refine wp_region_T (fun _ => True) [] [] [] [0, 1, 2, 3, 4, 5, 6, 7] (by kernel_rfl) (by kernel_rfl) (by kernel_rfl) trivial ?_; simp only [pickL, List.getElem?_cons_succ, List.getElem?_cons_zero]
         go_wp2_with (first
           | ((with_reducible refine wpT_q0 ?_ ?_ ?_ ?_); (focus rfl); (focus rfl); (focus rfl); intro K hK) | ((with_reducible refine wpT_x0 ?_ ?_ ?_); (focus rfl); (focus rfl); intro K hK) | ((with_reducible refine wpT_noL ?_ ?_); (focus (first | exact wanted_no _ _ _ rfl rfl rfl | exact wanted_un _ _ _ rfl rfl rfl)); simp only [setO, List.set_cons_succ, List.set_cons_zero]) | ((with_reducible refine wpT_q1 ?_ ?_ ?_ ?_); (focus exact wanted_yes _ _ _ rfl rfl rfl); (focus rfl); (focus rfl); intro K hK) | ((with_reducible refine wpT_x1 ?_ ?_ ?_); (focus exact wanted_yes _ _ _ rfl rfl rfl); (focus rfl); intro K hK) | ((with_reducible refine wpT_nil ?_); try dsimp only)
           | (go_at_call 57; refine (l11Most_c r (some ⟨b, off, none⟩) n c lo hi xs xs[k] wr.drew hn'.out hb hsr' hhr').mono ?_; rintro e w2 ⟨rfl, hb2⟩; have hB2 := hBr.drew.trans (hb2.mono hBr.size); have x0 := keepc (w := wr.drew) hb2 x0; have x1 := keepc (w := wr.drew) hb2 x1; have x2 := keepc (w := wr.drew) hb2 x2; have x3 := keepc (w := wr.drew) hb2 x3; have x4 := keepc (w := wr.drew) hb2 x4; have x5 := keepc (w := wr.drew) hb2 x5; have qz0 := keepc (w := wr.drew) hb2 qz0; have qz1 := keepc (w := wr.drew) hb2 qz1; have qz2 := keepc (w := wr.drew) hb2 qz2; have qz3 := keepc (w := wr.drew) hb2 qz3; have a1 := keepc (w := wr.drew) hb2 a1; have a2 := keepc (w := wr.drew) hb2 a2; have a3 := keepc (w := wr.drew) hb2 a3; have a4 := keepc (w := wr.drew) hb2 a4; have f0 := keepf (w := wr.drew) hb2 (by have := hlr; simp only [World.drew] at *; omega) f0; have f1 := keepf (w := wr.drew) hb2 (by have := hlr; simp only [World.drew] at *; omega) f1; have f2 := keepf (w := wr.drew) hb2 (by have := hlr; simp only [World.drew] at *; omega) f2; have f3 := keepf (w := wr.drew) hb2 (by have := hlr; simp only [World.drew] at *; omega) f3))
         refine bodyPost_ret (v := .tuple #[.agg #[.int .i64 xs[k].1, .int .i64 xs[k].2.1, .int .i64 xs[k].2.2.1, .int .i64 xs[k].2.2.2], .bool true]) (by simp [results, Try.results18, go_sem, qz0, qz1, qz2, qz3]) rfl ⟨by rw [hfo.out], fin'.out _ xs[k] hB2⟩
       · have d2 : decide (2 ≤ (most xs xs[k] : Int)) = false := by simp; omega
         have hno := hide (sureF_no hlx h2)
         clear h2
         go_wp2
         refine wp_region_T (fun _ => True) [] [] [] [0, 1, 2, 3, 4, 5, 6, 7] (by kernel_rfl) (by kernel_rfl) (by kernel_rfl) trivial ?_; simp only [pickL, List.getElem?_cons_succ, List.getElem?_cons_zero]
         go_wp2_with (first
           | ((with_reducible refine wpT_q0 ?_ ?_ ?_ ?_); (focus rfl); (focus rfl); (focus rfl); intro K hK) | ((with_reducible refine wpT_x0 ?_ ?_ ?_); (focus rfl); (focus rfl); intro K hK) | ((with_reducible refine wpT_noL ?_ ?_); (focus (first | exact wanted_no _ _ _ rfl rfl rfl | exact wanted_un _ _ _ rfl rfl rfl)); simp only [setO, List.set_cons_succ, List.set_cons_zero]) | ((with_reducible refine wpT_q1 ?_ ?_ ?_ ?_); (focus exact wanted_yes _ _ _ rfl rfl rfl); (focus rfl); (focus rfl); intro K hK) | ((with_reducible refine wpT_x1 ?_ ?_ ?_); (focus exact wanted_yes _ _ _ rfl rfl rfl); (focus rfl); intro K hK) | ((with_reducible refine wpT_nil ?_); try dsimp only)
           | (go_at_call 57; refine (l11Most_c r (some ⟨b, off, none⟩) n c lo hi xs xs[k] wr.drew hn'.out hb hsr' hhr').mono ?_; rintro e w2 ⟨rfl, hb2⟩; have hbr2 := hbr.drew.trans (hb2.mono hbr.size); have x0 := keepc (w := wr.drew) hb2 x0; have x1 := keepc (w := wr.drew) hb2 x1; have x2 := keepc (w := wr.drew) hb2 x2; have x3 := keepc (w := wr.drew) hb2 x3; have x4 := keepc (w := wr.drew) hb2 x4; have x5 := keepc (w := wr.drew) hb2 x5; have qz0 := keepc (w := wr.drew) hb2 qz0; have qz1 := keepc (w := wr.drew) hb2 qz1; have qz2 := keepc (w := wr.drew) hb2 qz2; have qz3 := keepc (w := wr.drew) hb2 qz3; have a1 := keepc (w := wr.drew) hb2 a1; have a2 := keepc (w := wr.drew) hb2 a2; have a3 := keepc (w := wr.drew) hb2 a3; have a4 := keepc (w := wr.drew) hb2 a4; have f0 := keepf (w := wr.drew) hb2 (by have := hlr; simp only [World.drew] at *; omega) f0; have f1 := keepf (w := wr.drew) hb2 (by have := hlr; simp only [World.drew] at *; omega) f1; have f2 := keepf (w := wr.drew) hb2 (by have := hlr; simp only [World.drew] at *; omega) f2; have f3 := keepf (w := wr.drew) hb2 (by have := hlr; simp only [World.drew] at *; omega) f3))
         go_roundw
         case rel => exact ⟨k + 1, by omega, by go_num, hide (hfd.out.trans hno.out), hbr2⟩
         case measure => simp [intOf]; omega
     · obtain rfl : k = n := by omega
       have hno : Hid (sureL r xs = ((0, 0, 0, 0), false)) := hide (by rw [hyes.out, hfd.out, sureF_end (by have := hn'.out; omega)])
       go_wp2
       refine bodyPost_ret (v := .tuple #[.agg #[.int .i64 0, .int .i64 0, .int .i64 0, .int .i64 0], .bool false]) (by simp [results, Try.results18, go_sem, qz0, qz1, qz2, qz3]) rfl ⟨by rw [hno.out], fin'.out wr (0, 0, 0, 0) hBr⟩
set_option maxHeartbeats 4000000 in
theorem PlayerSure_c (r : ReqV) (A : Option Addr) (n c lo hi : Nat) (xs : List ReplyT) (w : World) (hn : n = xs.length) (hb : n ≤ 1048576) (hc : n ≤ c) (hc2 : c ≤ maxLen) (hs : Sl encReply 4 w lo hi A xs) (hhi : hi ≤ w.heap.size) :
    Calls Try.prog 19 #[.agg #[.int .i64 r.1, .int .i64 r.2.1, .int .i64 r.2.2.1, .int .i64 r.2.2.2.1, .int .i64 r.2.2.2.2, .slice A n c]] w fun e w' => e = .returned (.tuple #[.agg #[.int .i64 (sureL r xs).1.1, .int .i64 (sureL r xs).1.2.1, .int .i64 (sureL r xs).1.2.2.1, .int .i64 (sureL r xs).1.2.2.2], .bool (sureL r xs).2]) ∧ Below w.heap.size w w' := by
  have hn' := hide hn
  clear hn
  have hb0 : Below w.heap.size w ((w.alloc (.cells #[.int .i64 r.1, .int .i64 r.2.1, .int .i64 r.2.2.1, .int .i64 r.2.2.2.1, .int .i64 r.2.2.2.2, .slice A n c] 32)).alloc (.cells #[.int .i64 0, .int .i64 0, .int .i64 0, .int .i64 0] 37)) := ((Below.refl _ _).alloc (Nat.le_refl _) _).alloc (by simp) _
  obtain ⟨t1, t2, t4⟩ := heap2 w (.cells #[.int .i64 r.1, .int .i64 r.2.1, .int .i64 r.2.2.1, .int .i64 r.2.2.2.1, .int .i64 r.2.2.2.2, .slice A n c] 32) (.cells #[.int .i64 0, .int .i64 0, .int .i64 0, .int .i64 0] 37)
  have x0 : ((w.alloc (.cells #[.int .i64 r.1, .int .i64 r.2.1, .int .i64 r.2.2.1, .int .i64 r.2.2.2.1, .int .i64 r.2.2.2.2, .slice A n c] 32)).alloc (.cells #[.int .i64 0, .int .i64 0, .int .i64 0, .int .i64 0] 37)).cell? ⟨w.heap.size, 0, none⟩ = some (.int .i64 r.1) := by simp only [World.cell?, t1]; rfl
  have x1 : ((w.alloc (.cells #[.int .i64 r.1, .int .i64 r.2.1, .int .i64 r.2.2.1, .int .i64 r.2.2.2.1, .int .i64 r.2.2.2.2, .slice A n c] 32)).alloc (.cells #[.int .i64 0, .int .i64 0, .int .i64 0, .int .i64 0] 37)).cell? ⟨w.heap.size, 1, none⟩ = some (.int .i64 r.2.1) := by simp only [World.cell?, t1]; rfl
  have x2 : ((w.alloc (.cells #[.int .i64 r.1, .int .i64 r.2.1, .int .i64 r.2.2.1, .int .i64 r.2.2.2.1, .int .i64 r.2.2.2.2, .slice A n c] 32)).alloc (.cells #[.int .i64 0, .int .i64 0, .int .i64 0, .int .i64 0] 37)).cell? ⟨w.heap.size, 2, none⟩ = some (.int .i64 r.2.2.1) := by simp only [World.cell?, t1]; rfl
  have x3 : ((w.alloc (.cells #[.int .i64 r.1, .int .i64 r.2.1, .int .i64 r.2.2.1, .int .i64 r.2.2.2.1, .int .i64 r.2.2.2.2, .slice A n c] 32)).alloc (.cells #[.int .i64 0, .int .i64 0, .int .i64 0, .int .i64 0] 37)).cell? ⟨w.heap.size, 3, none⟩ = some (.int .i64 r.2.2.2.1) := by simp only [World.cell?, t1]; rfl
  have x4 : ((w.alloc (.cells #[.int .i64 r.1, .int .i64 r.2.1, .int .i64 r.2.2.1, .int .i64 r.2.2.2.1, .int .i64 r.2.2.2.2, .slice A n c] 32)).alloc (.cells #[.int .i64 0, .int .i64 0, .int .i64 0, .int .i64 0] 37)).cell? ⟨w.heap.size, 4, none⟩ = some (.int .i64 r.2.2.2.2) := by simp only [World.cell?, t1]; rfl
  have x5 : ((w.alloc (.cells #[.int .i64 r.1, .int .i64 r.2.1, .int .i64 r.2.2.1, .int .i64 r.2.2.2.1, .int .i64 r.2.2.2.2, .slice A n c] 32)).alloc (.cells #[.int .i64 0, .int .i64 0, .int .i64 0, .int .i64 0] 37)).cell? ⟨w.heap.size, 5, none⟩ = some (.slice A n c) := by simp only [World.cell?, t1]; rfl
  have qz0 : ((w.alloc (.cells #[.int .i64 r.1, .int .i64 r.2.1, .int .i64 r.2.2.1, .int .i64 r.2.2.2.1, .int .i64 r.2.2.2.2, .slice A n c] 32)).alloc (.cells #[.int .i64 0, .int .i64 0, .int .i64 0, .int .i64 0] 37)).cell? ⟨w.heap.size + 1, 0, none⟩ = some (.int .i64 0) := by simp only [World.cell?, t2]; rfl
  have qz1 : ((w.alloc (.cells #[.int .i64 r.1, .int .i64 r.2.1, .int .i64 r.2.2.1, .int .i64 r.2.2.2.1, .int .i64 r.2.2.2.2, .slice A n c] 32)).alloc (.cells #[.int .i64 0, .int .i64 0, .int .i64 0, .int .i64 0] 37)).cell? ⟨w.heap.size + 1, 1, none⟩ = some (.int .i64 0) := by simp only [World.cell?, t2]; rfl
  have qz2 : ((w.alloc (.cells #[.int .i64 r.1, .int .i64 r.2.1, .int .i64 r.2.2.1, .int .i64 r.2.2.2.1, .int .i64 r.2.2.2.2, .slice A n c] 32)).alloc (.cells #[.int .i64 0, .int .i64 0, .int .i64 0, .int .i64 0] 37)).cell? ⟨w.heap.size + 1, 2, none⟩ = some (.int .i64 0) := by simp only [World.cell?, t2]; rfl
  have qz3 : ((w.alloc (.cells #[.int .i64 r.1, .int .i64 r.2.1, .int .i64 r.2.2.1, .int .i64 r.2.2.2.1, .int .i64 r.2.2.2.2, .slice A n c] 32)).alloc (.cells #[.int .i64 0, .int .i64 0, .int .i64 0, .int .i64 0] 37)).cell? ⟨w.heap.size + 1, 3, none⟩ = some (.int .i64 0) := by simp only [World.cell?, t2]; rfl
  have f0 : ((w.alloc (.cells #[.int .i64 r.1, .int .i64 r.2.1, .int .i64 r.2.2.1, .int .i64 r.2.2.2.1, .int .i64 r.2.2.2.2, .slice A n c] 32)).alloc (.cells #[.int .i64 0, .int .i64 0, .int .i64 0, .int .i64 0] 37)).frozen? ⟨w.heap.size + 1, 0, none⟩ = false := by simp only [World.frozen?, t2]; simp
  have f1 : ((w.alloc (.cells #[.int .i64 r.1, .int .i64 r.2.1, .int .i64 r.2.2.1, .int .i64 r.2.2.2.1, .int .i64 r.2.2.2.2, .slice A n c] 32)).alloc (.cells #[.int .i64 0, .int .i64 0, .int .i64 0, .int .i64 0] 37)).frozen? ⟨w.heap.size + 1, 1, none⟩ = false := by simp only [World.frozen?, t2]; simp
  have f2 : ((w.alloc (.cells #[.int .i64 r.1, .int .i64 r.2.1, .int .i64 r.2.2.1, .int .i64 r.2.2.2.1, .int .i64 r.2.2.2.2, .slice A n c] 32)).alloc (.cells #[.int .i64 0, .int .i64 0, .int .i64 0, .int .i64 0] 37)).frozen? ⟨w.heap.size + 1, 2, none⟩ = false := by simp only [World.frozen?, t2]; simp
  have f3 : ((w.alloc (.cells #[.int .i64 r.1, .int .i64 r.2.1, .int .i64 r.2.2.1, .int .i64 r.2.2.2.1, .int .i64 r.2.2.2.2, .slice A n c] 32)).alloc (.cells #[.int .i64 0, .int .i64 0, .int .i64 0, .int .i64 0] 37)).frozen? ⟨w.heap.size + 1, 3, none⟩ = false := by simp only [World.frozen?, t2]; simp
  have hl0 : w.heap.size + 1 < ((w.alloc (.cells #[.int .i64 r.1, .int .i64 r.2.1, .int .i64 r.2.2.1, .int .i64 r.2.2.2.1, .int .i64 r.2.2.2.2, .slice A n c] 32)).alloc (.cells #[.int .i64 0, .int .i64 0, .int .i64 0, .int .i64 0] 37)).heap.size := by rw [t4]; omega
  clear t1 t2 t4
  go_enter Try.func19, Try.ntmps19
  go_wp2_with fail
  generalize (w.alloc (.cells #[.int .i64 r.1, .int .i64 r.2.1, .int .i64 r.2.2.1, .int .i64 r.2.2.2.1, .int .i64 r.2.2.2.2, .slice A n c] 32)).alloc (.cells #[.int .i64 0, .int .i64 0, .int .i64 0, .int .i64 0] 37) = w0 at *
  refine (PlayerOk_c r A n c lo hi xs w0 hn'.out hb hc hc2 (hs.below hb0 hhi) (Nat.le_trans hhi hb0.size)).mono ?_
  rintro e w1 ⟨rfl, hb1⟩
  have hB1 := hb0.trans (hb1.mono hb0.size)
  have x0 := keepc hb1 x0
  have x1 := keepc hb1 x1
  have x2 := keepc hb1 x2
  have x3 := keepc hb1 x3
  have x4 := keepc hb1 x4
  have x5 := keepc hb1 x5
  have qz0 := keepc hb1 qz0
  have qz1 := keepc hb1 qz1
  have qz2 := keepc hb1 qz2
  have qz3 := keepc hb1 qz3
  have f0 := keepf hb1 (by omega) f0
  have f1 := keepf hb1 (by omega) f1
  have f2 := keepf hb1 (by omega) f2
  have f3 := keepf hb1 (by omega) f3
  have hl1 : w.heap.size + 1 < w1.heap.size := lt_of_cell qz0
  have fin : ∀ (wz : World) (t : ReplyT), Below w.heap.size w wz → Below w.heap.size w ((((wz.setCell ⟨w.heap.size + 1, 0, none⟩ (.int .i64 t.1)).setCell ⟨w.heap.size + 1, 1, none⟩ (.int .i64 t.2.1)).setCell ⟨w.heap.size + 1, 2, none⟩ (.int .i64 t.2.2.1)).setCell ⟨w.heap.size + 1, 3, none⟩ (.int .i64 t.2.2.2)) :=
    fun wz t h => h.trans (((((Below.refl w.heap.size wz).setCell (by simp) _).setCell (by simp) _).setCell (by simp) _).setCell (by simp) _)
  have fin' := hide fin
  clear fin
  cases e1 : decide (okPl r xs)
  · have hno := hide (sureL_not e1)
    go_wp2
    refine bodyPost_ret (v := .tuple #[.agg #[.int .i64 0, .int .i64 0, .int .i64 0, .int .i64 0], .bool false]) (by simp [results, Try.results19, go_sem, qz0, qz1, qz2, qz3]) rfl ⟨by rw [hno.out], fin'.out w1 (0, 0, 0, 0) hB1⟩
  · have hyes := hide (sureL_ok e1)
    go_wp2_with fail
    go_loopw [16, 5, 6, 8, 23] (fun iv _ _ _ _ wr => ∃ k : Nat, k ≤ n ∧ iv = .int .i64 k ∧ Hid (sureF xs (xs.drop 0) = sureF xs (xs.drop k)) ∧ Below w1.heap.size w1 wr) (fun iv _ _ _ _ _ => n - (intOf iv).toNat)
    case atStart => exact ⟨0, Nat.zero_le _, rfl, rfl, Below.refl _ _⟩
    case round =>
     obtain ⟨k, hk, rfl, hfd, hbr⟩ := hrel
     have hBr := hB1.trans (hbr.mono hB1.size)
     have x0 := keepc hbr x0
     have x1 := keepc hbr x1
     have x2 := keepc hbr x2
     have x3 := keepc hbr x3
     have x4 := keepc hbr x4
     have x5 := keepc hbr x5
     have qz0 := keepc hbr qz0
     have qz1 := keepc hbr qz1
     have qz2 := keepc hbr qz2
     have qz3 := keepc hbr qz3
     have f0 := keepf hbr (by omega) f0
     have f1 := keepf hbr (by omega) f1
     have f2 := keepf hbr (by omega) f2
     have f3 := keepf hbr (by omega) f3
     by_cases hlt : k < n
     · have hlx : k < xs.length := by have := hn'.out; omega
       have hsr := hs.below hBr hhi
       have hml := most_le xs xs[k]
       obtain ⟨b, off, rfl, hlo, hbh⟩ := hs.addr hlx
       obtain ⟨a1, a2, a3, a4⟩ := hsr.getReply hlx
       have hA2 := (Below.refl wr.heap.size wr).alloc (Nat.le_refl _) (.cells #[.int .i64 xs[k].1, .int .i64 xs[k].2.1, .int .i64 xs[k].2.2.1, .int .i64 xs[k].2.2.2] 37)
       have hB2 := hBr.trans (hA2.mono hBr.size)
       have hbr2 := hbr.trans (hA2.mono hbr.size)
       have hlr : w.heap.size + 1 < wr.heap.size := lt_of_cell qz0
       have y0 : (wr.alloc (.cells #[.int .i64 xs[k].1, .int .i64 xs[k].2.1, .int .i64 xs[k].2.2.1, .int .i64 xs[k].2.2.2] 37)).cell? ⟨wr.heap.size, 0, none⟩ = some (.int .i64 xs[k].1) := by simp
       have y1 : (wr.alloc (.cells #[.int .i64 xs[k].1, .int .i64 xs[k].2.1, .int .i64 xs[k].2.2.1, .int .i64 xs[k].2.2.2] 37)).cell? ⟨wr.heap.size, 1, none⟩ = some (.int .i64 xs[k].2.1) := by simp
       have y2 : (wr.alloc (.cells #[.int .i64 xs[k].1, .int .i64 xs[k].2.1, .int .i64 xs[k].2.2.1, .int .i64 xs[k].2.2.2] 37)).cell? ⟨wr.heap.size, 2, none⟩ = some (.int .i64 xs[k].2.2.1) := by simp
       have y3 : (wr.alloc (.cells #[.int .i64 xs[k].1, .int .i64 xs[k].2.1, .int .i64 xs[k].2.2.1, .int .i64 xs[k].2.2.2] 37)).cell? ⟨wr.heap.size, 3, none⟩ = some (.int .i64 xs[k].2.2.2) := by simp
       have x0 := keepc hA2 x0
       have x1 := keepc hA2 x1
       have x2 := keepc hA2 x2
       have x3 := keepc hA2 x3
       have x4 := keepc hA2 x4
       have x5 := keepc hA2 x5
       have qz0 := keepc hA2 qz0
       have qz1 := keepc hA2 qz1
       have qz2 := keepc hA2 qz2
       have qz3 := keepc hA2 qz3
       have f0 := keepf hA2 (by omega) f0
       have f1 := keepf hA2 (by omega) f1
       have f2 := keepf hA2 (by omega) f2
       have f3 := keepf hA2 (by omega) f3
       go_wp2_with fail
       clear a1 a2 a3 a4
       generalize hw2 : wr.alloc (.cells #[.int .i64 xs[k].1, .int .i64 xs[k].2.1, .int .i64 xs[k].2.2.1, .int .i64 xs[k].2.2.2] 37) = w2 at *
       clear hw2
       have hl2 : w.heap.size + 1 < w2.heap.size := lt_of_cell qz0
       go_loopw [23, 6, 8] (fun jv mv _ wj => ∃ j m : Nat, j ≤ n ∧ m ≤ j ∧ jv = .int .i64 j ∧ mv = .int .i64 m ∧ Hid (most xs xs[k] = m + most (xs.drop j) xs[k]) ∧ Below w2.heap.size w2 wj) (fun jv _ _ _ => n - (intOf jv).toNat)
       case atStart => exact ⟨0, 0, Nat.zero_le _, Nat.le_refl _, rfl, rfl, hide (by simp), Below.refl _ _⟩
       case round =>
         obtain ⟨j, m, hj, hmj, rfl, rfl, hms, hbj⟩ := hrel
         have hBj := hB2.trans (hbj.mono hB2.size)
         have hbrj := hbr2.trans (hbj.mono hbr2.size)
         have x0 := keepc hbj x0
         have x1 := keepc hbj x1
         have x2 := keepc hbj x2
         have x3 := keepc hbj x3
         have x4 := keepc hbj x4
         have x5 := keepc hbj x5
         have qz0 := keepc hbj qz0
         have qz1 := keepc hbj qz1
         have qz2 := keepc hbj qz2
         have qz3 := keepc hbj qz3
         have y0 := keepc hbj y0
         have y1 := keepc hbj y1
         have y2 := keepc hbj y2
         have y3 := keepc hbj y3
         have f0 := keepf hbj (by omega) f0
         have f1 := keepf hbj (by omega) f1
         have f2 := keepf hbj (by omega) f2
         have f3 := keepf hbj (by omega) f3
         by_cases hjn : j < n
         · have hjx : j < xs.length := by have := hn'.out; omega
           obtain ⟨a1, a2, a3, a4⟩ := (hs.below hBj hhi).getReply hjx
           have hst := hide (most_step hjx hms.out)
           have hly := lt_of_cell y0
           have hbje := hbj.alloc hbj.size (.cells #[.int .i64 xs[j].1, .int .i64 xs[j].2.1, .int .i64 xs[j].2.2.1, .int .i64 xs[j].2.2.2] 37)
           cases e1 : (xs[j].2.2.1 == xs[k].2.2.1)
           · have hno : Hid (alike xs[j] xs[k] = false) := hide (by simp [alike, e1])
             go_wp2
             go_roundw
             case rel => exact ⟨j + 1, m, by omega, by omega, by go_num, rfl, hide (by have := hst.out; rw [hno.out] at this; simpa using this), hbje⟩
             case measure => simp [intOf]; omega
           · cases e2 : (xs[j].2.2.2 == xs[k].2.2.2)
             · have hno : Hid (alike xs[j] xs[k] = false) := hide (by simp [alike, e2])
               go_wp2
               go_roundw
               case rel => exact ⟨j + 1, m, by omega, by omega, by go_num, rfl, hide (by have := hst.out; rw [hno.out] at this; simpa using this), hbje⟩
               case measure => simp [intOf]; omega
             · have hno : Hid (alike xs[j] xs[k] = true) := hide (by simp only [alike, e1, e2]; rfl)
               go_wp2
               go_roundw
               case rel => exact ⟨j + 1, m + 1, by omega, by omega, by go_num, by go_num, hide (by have := hst.out; rw [hno.out] at this; simpa using this), hbje⟩
               case measure => simp [intOf]; omega
         · obtain rfl : j = n := by omega
           have hf : most xs xs[k] = m := by rw [hms.out, List.drop_of_length_le (by have := hn'.out; omega)]; rfl
           by_cases h2 : 2 ≤ m
           · have d2 : decide (2 ≤ (m : Int)) = true := by simp; omega
             have hfo : Hid (sureL r xs = (xs[k], true)) := hide (by rw [hyes.out, hfd.out, sureF_yes hlx (by omega)])
             clear hf
             go_wp2
             refine bodyPost_ret (v := .tuple #[.agg #[.int .i64 xs[k].1, .int .i64 xs[k].2.1, .int .i64 xs[k].2.2.1, .int .i64 xs[k].2.2.2], .bool true]) (by simp [results, Try.results19, go_sem, qz0, qz1, qz2, qz3]) rfl ⟨by rw [hfo.out], fin'.out _ xs[k] hBj⟩
           · have d2 : decide (2 ≤ (m : Int)) = false := by simp; omega
             have hno := hide (sureF_no hlx (by omega))
             clear hf
             go_wp2
             go_roundw
             case rel => exact ⟨k + 1, by omega, by go_num, hide (hfd.out.trans hno.out), hbrj⟩
             case measure => simp [intOf]; omega
     · obtain rfl : k = n := by omega
       have hno : Hid (sureL r xs = ((0, 0, 0, 0), false)) := hide (by rw [hyes.out, hfd.out, sureF_end (by have := hn'.out; omega)])
       go_wp2
       refine bodyPost_ret (v := .tuple #[.agg #[.int .i64 0, .int .i64 0, .int .i64 0, .int .i64 0], .bool false]) (by simp [results, Try.results19, go_sem, qz0, qz1, qz2, qz3]) rfl ⟨by rw [hno.out], fin'.out wr (0, 0, 0, 0) hBr⟩
end Go.Proofs.Ytchofialljhojaa
