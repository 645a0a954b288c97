/-
  'wpTexts'; what 'FnPieceJoin' draws.
-/
import Derived.Test.YtjhgcppjpolamaaDoorPD
import Derived.Test.YtjhgcppjpolamaaDoorPK
namespace Go.Proofs.YtjhgcppjpolamaaDoor
open Go.RowKit Rg
set_option linter.unusedVariables false
set_option linter.unusedSimpArgs false

theorem wpTexts_c (A B : Option Addr) (n m c d lo hi lo' hi' : Nat) (xs ys : List ByteArray) (w : World) (hn : n = xs.length) (hm : m = ys.length) (hb : n ≤ 1048576) (hb' : m ≤ 1048576) (hs : Sl encS 1 w lo hi A xs) (hs' : Sl encS 1 w lo' hi' B ys) (hhi : hi ≤ w.heap.size) (hhi' : hi' ≤ w.heap.size) :
    Calls Tryd.prog 35 #[.slice A n c, .slice B m d] w fun e w' => e = .returned (.bool (decide (xs = ys))) ∧ Below w.heap.size w w' := by
  have hn' := hide hn
  have hm' := hide hm
  by_cases hnm : n = m
  · have hxy : xs.length = ys.length := by omega
    have hxy' := hide hxy
    clear hn hm hxy
    subst hnm
    go_enter Tryd.func35, Tryd.ntmps35
    go_wp2
    go_loopw [5] (fun i wr => ∃ k : Nat, k ≤ n ∧ i = .int .i64 k ∧ Hid (xs.take k = ys.take k) ∧ Below w.heap.size w wr) (fun i _ => n - (intOf i).toNat)
    case atStart => exact ⟨0, Nat.zero_le _, rfl, rfl, Below.refl _ _⟩
    case round =>
      obtain ⟨k, hk, rfl, he, hbr⟩ := hrel
      by_cases hlt : k < n
      · have hlx : k < xs.length := by have := hn'.out; omega
        have hly : k < ys.length := by have := hm'.out; omega
        obtain ⟨b, off, rfl, hlo, hbh⟩ := hs.addr hlx
        obtain ⟨b', off', rfl, hlo', hbh'⟩ := hs'.addr hly
        have a1 := (hs.below hbr hhi).str hlx
        have b1 := (hs'.below hbr hhi').str hly
        by_cases hq : xs[k] = ys[k]
        · have hq' := hide hq
          go_wp2
          refine wp_region_T (fun _ => True) [] [] [] [0, 1, 2, 3, 4, 5, 6, 7, 8] (by kernel_rfl) (by kernel_rfl) (by kernel_rfl) trivial ?_; simp only [pickL, List.getElem?_cons_succ, List.getElem?_cons_zero]
          go_wp2_with (first
            | ((with_reducible refine wpT_q0 ?_ ?_ ?_ ?_); (focus rfl); (focus rfl); (focus rfl); intro K hK) | ((with_reducible refine wpT_x0 ?_ ?_ ?_); (focus rfl); (focus rfl); intro K hK) | ((with_reducible refine wpT_noL ?_ ?_); (focus (first | exact wanted_no _ _ _ rfl rfl rfl | exact wanted_un _ _ _ rfl rfl rfl)); simp only [setO, List.set_cons_succ, List.set_cons_zero]) | ((with_reducible refine wpT_q1 ?_ ?_ ?_ ?_); (focus exact wanted_yes _ _ _ rfl rfl rfl); (focus rfl); (focus rfl); intro K hK) | ((with_reducible refine wpT_x1 ?_ ?_ ?_); (focus exact wanted_yes _ _ _ rfl rfl rfl); (focus rfl); intro K hK) | ((with_reducible refine wpT_nil ?_); try dsimp only)
            | fail)
          go_roundw
          case rel => exact ⟨k + 1, by omega, by go_num, hide (take_eq_succ xs ys k hlx hly he.out hq'.out), hbr.trans (Below.drew (Below.refl _ _))⟩
          case measure => simp [intOf]; omega
        · have hq' := hide hq
          have hbne : (xs[k].toList == ys[k].toList) = false := beq_false_of_ne fun h => hq (by rw [ByteArray.toList_eq, ByteArray.toList_eq] at h; exact Go.WideShapes.bytes_inj h)
          clear hq
          go_wp2
          refine wp_region_T (fun _ => True) [] [] [] [0, 1, 2, 3, 4, 5, 6, 7, 8] (by kernel_rfl) (by kernel_rfl) (by kernel_rfl) trivial ?_; simp only [pickL, List.getElem?_cons_succ, List.getElem?_cons_zero]
          go_wp2_with (first
            | ((with_reducible refine wpT_q0 ?_ ?_ ?_ ?_); (focus rfl); (focus rfl); (focus rfl); intro K hK) | ((with_reducible refine wpT_x0 ?_ ?_ ?_); (focus rfl); (focus rfl); intro K hK) | ((with_reducible refine wpT_noL ?_ ?_); (focus (first | exact wanted_no _ _ _ rfl rfl rfl | exact wanted_un _ _ _ rfl rfl rfl)); simp only [setO, List.set_cons_succ, List.set_cons_zero]) | ((with_reducible refine wpT_q1 ?_ ?_ ?_ ?_); (focus exact wanted_yes _ _ _ rfl rfl rfl); (focus rfl); (focus rfl); intro K hK) | ((with_reducible refine wpT_x1 ?_ ?_ ?_); (focus exact wanted_yes _ _ _ rfl rfl rfl); (focus rfl); intro K hK) | ((with_reducible refine wpT_nil ?_); try dsimp only)
            | fail)
          go_ret
          refine ⟨congrArg (fun b => Ending.returned (.bool b)) ?_, hbr.trans (Below.drew (Below.refl _ _))⟩
          have : ¬ xs = ys := fun h => by subst h; exact hq'.out rfl
          simp [this]
      · obtain rfl : k = n := by omega
        go_wp2
        go_ret
        have e1 := he.out
        rw [List.take_of_length_le (by rw [hn'.out]; omega), List.take_of_length_le (by rw [hm'.out]; omega)] at e1
        exact ⟨by simp [e1], hbr⟩
  · have hne : ¬ xs = ys := fun h => by subst h; omega
    have hne' : ((n : Int) != (m : Int)) = true := by simp; omega
    clear hn hm
    go_enter Tryd.func35, Tryd.ntmps35
    go_wp2
    go_ret
    exact ⟨by simp [hne], Below.refl _ _⟩

theorem wpSameS_c {A B : Option Addr} {n m c d lo lo' : Nat} {xs : List ByteArray} {w : World} (h : Own encS 1 9 w lo (.slice A n c) xs) (h' : Own encS 1 9 w lo' (.slice B m d) xs) (hb : xs.length ≤ 1048570) :
    Calls Tryd.prog 35 #[.slice A n c, .slice B m d] w fun e w' => e = .returned (.bool true) ∧ Below w.heap.size w w' := by
  obtain ⟨h1, _, h2⟩ := h.slAt encS_len
  obtain ⟨h3, _, h4⟩ := h'.slAt encS_len
  have := wpTexts_c A B n m c d _ _ _ _ xs xs w h1 h3 (by omega) (by omega) h2 h4 (Nat.le_refl _) (Nat.le_refl _)
  simpa using this
theorem sum_pcs (m : Nat) : ∀ s : ByteArray, s.size = m → sumS (pcs s) = s.size := by
  induction m using Nat.strongRecOn with
  | _ m ih =>
    intro s hm
    by_cases h : 12 < s.size
    · rw [pcs_more h]
      have := ih (s.extract 12 s.size).size (by simp; omega) _ rfl
      show (s.extract 0 12).size + sumS (pcs (s.extract 12 s.size)) = s.size
      rw [this]
      simp
      omega
    · rw [pcs_last h]; rfl
theorem sum_pieces (s : ByteArray) : sumS (pieces s) ≤ s.size := by
  unfold pieces
  split
  · exact Nat.zero_le _
  · rw [sum_pcs _ s rfl]; exact Nat.le_refl _
theorem pieces_len2 (s : ByteArray) : (pieces s).length ≤ s.size + 1 := by
  unfold pieces
  split
  · simp
  · exact pcs_len s
theorem sum_set : ∀ (xs : List ByteArray) (k : Nat) (y : ByteArray), sumS (xs.set k y) ≤ sumS xs + y.size
  | [], k, y => by simp [sumS]
  | x :: xs, 0, y => by show y.size + sumS xs ≤ (x.size + sumS xs) + y.size; omega
  | x :: xs, k + 1, y => by
    have := sum_set xs k y
    show x.size + sumS (xs.set k y) ≤ (x.size + sumS xs) + y.size
    omega
set_option maxHeartbeats 1000000 in
theorem l20Pieces_c (g P : Nat) (w : World) (hr : Rd w g P) (hP : P ≤ 10000) :
    Calls Tryd.prog 52 #[.pointer (some ⟨g, 0, none⟩)] w fun e w' => ∃ (v : Value) (xs : List ByteArray), e = .returned v ∧ xs.length ≤ 300 ∧ sumS xs ≤ 1000 ∧ Own encS 1 9 w' w.heap.size v xs ∧ Rd w' g (P + 300) ∧ Only w.heap.size (some g) w w' := by
  have hg := hr.lt
  go_enter Tryd.func52, Tryd.ntmps52
  go_wp2_with fail
  refine (l20Long_c g P w hr (by omega)).mono ?_
  rintro e w1 ⟨s, rfl, hs, hr1, ho1⟩
  have hlen := pieces_len2 s
  have hsum := sum_pieces s
  go_wp2_with fail
  refine (specPieceOf_c s w1 (by omega)).mono ?_
  rintro e w2 ⟨v2, rfl, hv2', hb2⟩
  have hr2 := hr1.keep hb2
  have ho2 := ho1.trans ((Only.of_below hb2).mono ho1.size)
  have hv2 := hv2'.mono ho1.size
  clear hv2' ho1 hb2 hr1
  generalize pieces s = xs at *
  obtain ⟨A2, c2, rfl, hc21, hc22, hs2⟩ := hv2.sl encS_len
  have hne : ∀ b, (Value.slice A2 xs.length c2).ownBlock = some b → some g ≠ some b := fun b hb e => by injection e with e; have := (hv2.lt b hb).1; omega
  go_wp2_with fail
  refine (pick_c g _ 10 w2 hr2 (by omega) (by omega)).mono ?_
  rintro e w3 ⟨k, rfl, hk, hr3, h3⟩
  have hv3 := hv2.only h3 (Nat.le_refl _) hne
  have ho3 := ho2.trans (h3.mono ho2.size)
  clear hk h3 hr2
  by_cases hk0 : k = 0
  · have d1 : ((k : Int) == 0) = true := by simp [hk0]
    have hb4 := (Below.refl w3.heap.size w3).alloc (Nat.le_refl _) (.cells #[.string ⟨#[]⟩, .string ⟨#[120]⟩] 9)
    have hs4 := sl_arr encS_len w3 #[.string ⟨#[]⟩, .string ⟨#[120]⟩] 9 [⟨#[]⟩, ⟨#[120]⟩] rfl
    have hr4 := hr3.keep hb4
    have ho4 := ho3.trans ((Only.of_below hb4).mono ho3.size)
    have hv4 := hv3.below hb4 (Nat.le_refl _)
    go_wp2_with fail
    refine (of_c g _ _ _ _ 2 2 [⟨#[]⟩, ⟨#[120]⟩] _ hr4 (by omega) rfl (by omega) (by omega) hs4 hr3.lt (by simp)).mono ?_
    rintro e w5 ⟨x, hx, rfl, hr5, h5⟩
    have hv5 := hv4.only h5 (Nat.le_refl _) hne
    have ho5 := ho4.trans (h5.mono ho4.size)
    have hx1 : Hid (x.size ≤ 1) := hide (by simp at hx; rcases hx with rfl | rfl <;> decide)
    clear hx h5 hb4 hs4 hr4 hv4
    go_wp2_with (at_builtin; refine wpList_app encS_len (by omega) encS_one rfl _ _ 30 rfl 9 _ 16 Tryd.underlying30 infoS rfl w.heap.size _ xs rfl (hv5.alloc _) 0 _ _ [x] _ _ rfl rfl (sl_oneS w5 x _) ?h2 ?h3 ?_)
    case h2 => simp [maxLen]; omega
    case h3 => simp; have := ho5.size; omega
    intro v6 w6 hv6 hg6 hb6
    have hA6 := (Below.refl w5.heap.size w5).alloc (Nat.le_refl _) (.cells #[.string x] 9)
    have hr6 := (hr5.keep hA6).below hb6 hg
    have ho6 := (ho5.trans ((Only.of_below hA6).mono ho5.size)).trans (Only.of_below hb6)
    go_wp2
    go_ret
    refine ⟨_, xs ++ [x], rfl, by simp; omega, ?_, hv6, hr6.mono (by omega), ho6⟩
    have := hx1.out
    rw [sumS_app]
    show sumS xs + (x.size + 0) ≤ 1000
    omega
  · have d1 : ((k : Int) == 0) = false := by simpa using hk0
    by_cases hk1 : k = 1
    · have d2 : ((k : Int) == 1) = true := by simp [hk1]
      by_cases hx0 : 0 < xs.length
      · have d3 : decide (0 < (xs.length : Int)) = true := by simpa using hx0
        go_wp2_with fail
        refine (pick_c g _ (xs.length : Int) w3 hr3 (by omega) (by omega)).mono ?_
        rintro e w4 ⟨j, rfl, hj, hr4, h4⟩
        have hjx : j < xs.length := by have := hj.1 (by omega); omega
        have hv4 := hv3.only h4 (Nat.le_refl _) hne
        have ho4 := ho3.trans (h4.mono ho3.size)
        obtain ⟨b, rfl, hb1, hb2⟩ := hv4.addrAt hjx
        have f0 := hv4.frozen j
        have c0 := (hv4.slAt encS_len).2.2.str hjx
        simp only [Nat.zero_add] at c0
        have h5 := hide (hv4.put_ encS_len hjx ⟨#[115, 104, 111, 114, 116]⟩)
        have hgb : g + 1 ≤ b := by omega
        have hwb := hide hb1
        have hB5 : Below (g + 1) w4 (w4.setCell ⟨b, j, none⟩ (.string ⟨#[115, 104, 111, 114, 116]⟩)) := (Below.refl (g + 1) w4).setCell (by simpa using hgb) _
        have hB6 : Below w.heap.size w4 (w4.setCell ⟨b, j, none⟩ (.string ⟨#[115, 104, 111, 114, 116]⟩)) := (Below.refl _ w4).setCell (by simpa using hb1) _
        have hr5 := hide (hr4.below hB5 (by omega))
        have ho5 := hide (ho4.trans (Only.of_below hB6))
        clear hj h4 hB5 hB6
        go_wp2
        go_ret
        refine ⟨_, xs.set j ⟨#[115, 104, 111, 114, 116]⟩, rfl, by simp; omega, ?_, ?_, hr5.out.mono (by omega), ho5.out⟩
        · have := sum_set xs j ⟨#[115, 104, 111, 114, 116]⟩
          have e5 : (⟨#[115, 104, 111, 114, 116]⟩ : ByteArray).size = 5 := rfl
          omega
        · have h6 := h5.out
          simp only [Nat.mul_one] at h6
          exact h6
      · have d3 : decide (0 < (xs.length : Int)) = false := by simpa using hx0
        go_wp2
        go_ret
        exact ⟨_, xs, rfl, by omega, by omega, hv3, hr3.mono (by omega), ho3⟩
    · have d2 : ((k : Int) == 1) = false := by simp; omega
      go_wp2
      go_ret
      exact ⟨_, xs, rfl, by omega, by omega, hv3, hr3.mono (by omega), ho3⟩
end Go.Proofs.YtjhgcppjpolamaaDoor
