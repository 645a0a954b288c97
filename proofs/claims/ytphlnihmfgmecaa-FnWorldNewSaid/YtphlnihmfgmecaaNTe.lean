/-
  'FnWorldNew' returns true, for every code: in a new world nothing was said, and all agree.
  Conditions: none.
-/
import Derived.Test.YtphlnihmfgmecaaNTd
namespace Go.Proofs.Ytphlnihmfgmecaa
open Go.RowKit Rg
set_option linter.unusedVariables false
set_option linter.unusedSimpArgs false

theorem WorldNew_no (bad : Int) (w : World) (h : inB bad 0 3 = false) : Calls Try.prog 28 #[.int .i64 bad] w fun e w' => e = .returned (.agg #[.int .i64 0, .slice none 0 0, .slice none 0 0]) ∧ Below w.heap.size w w' := by
  have hA := (Below.refl w.heap.size w).alloc (Nat.le_refl _) (.cells #[.int .i64 0, .slice none 0 0, .slice none 0 0] 46)
  go_enter Try.func28, Try.ntmps28
  go_wp2_with (go_at_call 81; refine (isKeeper_c _ _).mono ?_; rintro e w' ⟨rfl, rfl⟩; rw [h])
  exact bodyPost_ret (v := .agg #[.int .i64 0, .slice none 0 0, .slice none 0 0]) (by simp [results, Try.results28, go_sem]) rfl ⟨rfl, by simpa using hA⟩
theorem specWorldNew_no (bad : Int) (w : World) (h : inB bad 0 3 = false) : Calls Try.prog 30 #[.int .i64 bad] w fun e w' => e = .returned (.agg #[.int .i64 0, .slice none 0 0, .slice none 0 0]) ∧ Below w.heap.size w w' := by
  have hA := (Below.refl w.heap.size w).alloc (Nat.le_refl _) (.cells #[.int .i64 0, .slice none 0 0, .slice none 0 0] 46)
  go_enter Try.func30, Try.ntmps30
  go_wp2_with (go_at_call 84; refine (l1In_c _ _ _ _).mono ?_; rintro e w' ⟨rfl, rfl⟩; rw [h])
  exact bodyPost_ret (v := .agg #[.int .i64 0, .slice none 0 0, .slice none 0 0]) (by simp [results, Try.results30, go_sem]) rfl ⟨rfl, by simpa using hA⟩
theorem specWorldNew_yes (bad : Int) (w : World) (hin : inB bad 0 3 = true) : Calls Try.prog 30 #[.int .i64 bad] w fun e w' => ∃ (A : Option Addr) (c : Nat), e = .returned (.agg #[.int .i64 bad, .slice A 4 c, .slice none 0 0]) ∧ 4 ≤ c ∧ c ≤ maxLen ∧ Own encN 7 39 w' w.heap.size (.slice A 4 c) (upTo 4) ∧ Below w.heap.size w w' := by
  have hz0 : NBox (w.alloc (.cells #[.int .i64 0, .slice none 0 0, .slice none 0 0] 46)) w.heap.size 0 none 0 0 := heap_alloc_new w (.cells #[.int .i64 0, .slice none 0 0, .slice none 0 0] 46)
  have hb0 : Below w.heap.size w (w.alloc (.cells #[.int .i64 0, .slice none 0 0, .slice none 0 0] 46)) := (Below.refl _ _).alloc (Nat.le_refl _) _
  go_enter Try.func30, Try.ntmps30
  go_wp2_with fail
  refine (l1In_c bad 0 3 _).mono ?_
  rintro e w' ⟨rfl, rfl⟩
  rw [hin]
  go_wp2_with fail
  generalize w.alloc (.cells #[.int .i64 0, .slice none 0 0, .slice none 0 0] 46) = w0 at *
  refine (l6New_c bad w0).mono ?_
  rintro e w1 ⟨A, c, rfl, hc1, hc2, ho, hb1⟩
  have hbz := hz0.below hb1 hz0.lt
  have hlw := hz0.lt
  have hB1 := hb0.trans (hb1.mono hb0.size)
  obtain ⟨z0, z1, z2, zf0, zf1, zf2⟩ := hbz.cells
  go_wp2
  exact bodyPost_ret (v := .agg #[.int .i64 bad, .slice A 4 c, .slice none 0 0]) (by simp [results, Try.results30, go_sem, z0, z1, z2, zf0, zf1, zf2]) rfl ⟨A, c, rfl, hc1, hc2, (keep3 (w := w) (ho.mono (by omega : w.heap.size + 1 ≤ w0.heap.size)) (Nat.lt_succ_self _)).mono (Nat.le_succ _), below3 hB1 (Nat.le_refl _)⟩
theorem DrawWorldNew_c (A : Option Addr) (n c : Nat) (bs : List Int) (w : World) (hn : n = bs.length) (hc : n ≤ c) (hcm : c ≤ maxLen) (hs : Sl encU 1 w 0 w.heap.size A bs) (hb : ∀ b ∈ bs, 0 ≤ b ∧ b < 256) :
    Calls Try.prog 27 #[.slice A n c] w fun e w' => ∃ me, e = .returned (.int .i64 me) ∧ (0 ≤ me ∧ me ≤ 4 ∨ me = -1) ∧ Below w.heap.size w w' := by
  have hn' := hide hn
  have hb' := hide hb
  clear hn hb
  go_enter Try.func27, Try.ntmps27
  go_wp2_with fail
  refine (l20Open_c A n c bs w hn'.out hc hcm hs hb'.out).mono ?_
  rintro e w1 ⟨rfl, hr1, hb1⟩
  have hA := (Below.refl w1.heap.size w1).alloc (Nat.le_refl _) (.cells #[.int .i64 0, .int .i64 1, .int .i64 2, .int .i64 3, .int .i64 4, .int .i64 (-1)] 3)
  have hs1 : Sl encI 1 (w1.alloc (.cells #[.int .i64 0, .int .i64 1, .int .i64 2, .int .i64 3, .int .i64 4, .int .i64 (-1)] 3)) w1.heap.size (w1.heap.size + 1) (some ⟨w1.heap.size, 0, none⟩) [0, 1, 2, 3, 4, -1] := sl_arr encI_len w1 _ _ _ rfl
  have hr2 := hr1.keep hA
  have hz := hA.size
  have hsz : w1.heap.size + 1 ≤ (w1.alloc (.cells #[.int .i64 0, .int .i64 1, .int .i64 2, .int .i64 3, .int .i64 4, .int .i64 (-1)] 3)).heap.size := by simp
  have hB := hb1.trans (hA.mono hb1.size)
  have hlt := hr1.lt
  go_wp2_with fail
  generalize w1.alloc (.cells #[.int .i64 0, .int .i64 1, .int .i64 2, .int .i64 3, .int .i64 4, .int .i64 (-1)] 3) = w2 at *
  refine (one_c w.heap.size 0 _ _ _ 6 6 [0, 1, 2, 3, 4, -1] w2 hr2 (by omega) rfl (by omega) (by omega) hs1 hlt hsz).mono ?_
  rintro e w3 ⟨x, hx, rfl, hr3, ho3⟩
  have hx' : Hid (0 ≤ x ∧ x ≤ 4 ∨ x = -1) := hide (by
    simp only [List.mem_cons, List.not_mem_nil, or_false] at hx
    omega)
  have hB3 := hB.trans (ho3.toBelow hB.size (fun k hk => by injection hk with hk; omega))
  clear hx
  go_wp2
  go_ret
  exact ⟨x, rfl, hx'.out, hB3⟩

set_option maxRecDepth 100000 in
set_option maxHeartbeats 2000000 in
theorem lawWorldNewD (A : Option Addr) (n c : Nat) (bs : List Int) (w : World) (hn : n = bs.length) (hc : n ≤ c) (hcm : c ≤ maxLen) (hs : Sl encU 1 w 0 w.heap.size A bs) (hb : ∀ b ∈ bs, 0 ≤ b ∧ b < 256) :
    Calls Try.prog 5 #[.slice A n c] w fun e w' => e = .returned (.bool true) ∧ Below w.heap.size w w' := by
  have hn' := hide hn
  have hb' := hide hb
  clear hn hb
  by_cases hbig : 1048576 < n
  · have d1 : decide (1048576 < (n : Int)) = true := by simp; omega
    go_enter Try.func5, Try.ntmps5
    go_wp2
    go_ret
    exact ⟨rfl, Below.refl _ _⟩
  have d1 : decide (1048576 < (n : Int)) = false := by simp; omega
  go_enter Try.func5, Try.ntmps5
  go_wp2_with fail
  refine (DrawWorldNew_c A n c bs w hn'.out hc hcm hs hb'.out).mono ?_
  rintro e w1 ⟨me, rfl, hme, hB1⟩
  cases hin : inB me 0 3
  · go_wp2_with fail
    refine (WorldNew_no me w1 hin).mono ?_
    rintro e w2 ⟨rfl, hb2⟩
    have hB2 := hB1.trans (hb2.mono hB1.size)
    have hA := (Below.refl w2.heap.size w2).alloc (Nat.le_refl _) (.cells #[.int .i64 0, .slice none 0 0, .slice none 0 0] 46)
    have hB3 := hB2.trans (hA.mono hB2.size)
    have hl : w2.heap.size < (w2.alloc (.cells #[.int .i64 0, .slice none 0 0, .slice none 0 0] 46)).heap.size := by simp
    have y0 : (w2.alloc (.cells #[.int .i64 0, .slice none 0 0, .slice none 0 0] 46)).cell? ⟨w2.heap.size, 0, none⟩ = some (.int .i64 0) := by simp
    have y1 : (w2.alloc (.cells #[.int .i64 0, .slice none 0 0, .slice none 0 0] 46)).cell? ⟨w2.heap.size, 1, none⟩ = some (.slice none 0 0) := by simp
    have y2 : (w2.alloc (.cells #[.int .i64 0, .slice none 0 0, .slice none 0 0] 46)).cell? ⟨w2.heap.size, 2, none⟩ = some (.slice none 0 0) := by simp
    go_wp2_with fail
    generalize w2.alloc (.cells #[.int .i64 0, .slice none 0 0, .slice none 0 0] 46) = u3 at *
    refine wp_region_T (Since _) [] [] [12] [0, 1, 2, 3, 4, 5, 6, 7, 8, 9, 10] (by kernel_rfl) (by kernel_rfl) (by kernel_rfl) (Since.drew _) ?_; simp only [pickL, List.getElem?_cons_succ, List.getElem?_cons_zero]
    have hS4 : Since u3 u3.drew := Since.drew _
    have hD4 := (Below.refl u3.heap.size u3).drew
    have y0 := keepc hD4 y0
    have y1 := keepc hD4 y1
    have y2 := keepc hD4 y2
    have hB4d := hB3.trans (hD4.mono hB3.size)
    have hlv := Nat.lt_of_lt_of_le hl hD4.size
    generalize u3.drew = v4 at *
    go_wp2_with (first
      | (with_reducible refine Since.and_ ?_ ?_; (focus (repeat (first | (with_reducible exact Since.refl _) | assumption | (with_reducible refine Since.drewR ?_) | (with_reducible refine Since.alloc ?_ _) | ((with_reducible apply Since.below); rotate_left; (focus assumption))))); intro hS) | ((with_reducible refine wpT_noL ?_ ?_); (focus (first | exact wanted_no _ _ _ rfl rfl rfl | exact wanted_un _ _ _ rfl rfl rfl)); simp only [setO, List.set_cons_succ, List.set_cons_zero]) | ((with_reducible refine wpT_q0 ?_ ?_ ?_ ?_); (focus rfl); (focus rfl); (focus rfl); intro K hK) | ((with_reducible apply wpT_l); (focus rfl); (focus rfl); (focus rfl); (focus rfl); (focus (first | exact Since.drew _ | assumption)); (focus (simp <;> omega)); (focus go_simp); intro K hK) | ((with_reducible apply wpT_lw); (focus exact wanted_yes _ _ _ rfl rfl rfl); (focus rfl); (focus rfl); (focus rfl); (focus (first | exact Since.drew _ | assumption)); (focus (simp <;> omega)); (focus go_simp); intro K hK) | ((with_reducible refine wpT_xs0 ?_ ?_ ?_); (focus rfl); (focus rfl); intro K hK) | ((with_reducible refine wpT_q1 ?_ ?_ ?_ ?_); (focus exact wanted_yes _ _ _ rfl rfl rfl); (focus rfl); (focus rfl); intro K hK) | ((with_reducible refine wpT_xs1 ?_ ?_ ?_); (focus exact wanted_yes _ _ _ rfl rfl rfl); (focus rfl); intro K hK) | ((with_reducible refine wpT_nil ?_); try dsimp only)
      | (go_at_call 30; refine (specWorldNew_no me v4 hin).mono ?_; rintro e p4 ⟨rfl, hp4⟩; have hB4e := hB4d.trans (hp4.mono hB4d.size); replace hp4 := hp4)
      | (go_at_call 29; refine (wpWorld_none p4).mono ?_; rintro e u4 ⟨rfl, hq4⟩; have hB4 := hB4e.trans (hq4.mono hB4e.size); have hk4 := hp4.trans (hq4.mono hp4.size); have y0 := keepc hk4 y0; have y1 := keepc hk4 y1; have y2 := keepc hk4 y2; have hl := Nat.lt_of_lt_of_le hlv hk4.size; replace hq4 := hq4)
      | fail)
    refine wp_region_T (Since _) [] [] [23] [0, 1, 2, 3, 4] (by kernel_rfl) (by kernel_rfl) (by kernel_rfl) (Since.drew _) ?_; simp only [pickL, List.getElem?_cons_succ, List.getElem?_cons_zero]
    have hS5 : Since u4 u4.drew := Since.drew _
    have hD5 := (Below.refl u4.heap.size u4).drew
    have y0 := keepc hD5 y0
    have y1 := keepc hD5 y1
    have y2 := keepc hD5 y2
    have hB5d := hB4.trans (hD5.mono hB4.size)
    have hlv := Nat.lt_of_lt_of_le hl hD5.size
    generalize u4.drew = v5 at *
    go_wp2_with (first
      | (with_reducible refine Since.and_ ?_ ?_; (focus (repeat (first | (with_reducible exact Since.refl _) | assumption | (with_reducible refine Since.drewR ?_) | (with_reducible refine Since.alloc ?_ _) | ((with_reducible apply Since.below); rotate_left; (focus assumption))))); intro hS) | ((with_reducible refine wpT_noL ?_ ?_); (focus (first | exact wanted_no _ _ _ rfl rfl rfl | exact wanted_un _ _ _ rfl rfl rfl)); simp only [setO, List.set_cons_succ, List.set_cons_zero]) | ((with_reducible refine wpT_q0 ?_ ?_ ?_ ?_); (focus rfl); (focus rfl); (focus rfl); intro K hK) | ((with_reducible apply wpT_l); (focus rfl); (focus rfl); (focus rfl); (focus rfl); (focus (first | exact Since.drew _ | assumption)); (focus (simp <;> omega)); (focus go_simp); intro K hK) | ((with_reducible apply wpT_lw); (focus exact wanted_yes _ _ _ rfl rfl rfl); (focus rfl); (focus rfl); (focus rfl); (focus (first | exact Since.drew _ | assumption)); (focus (simp <;> omega)); (focus go_simp); intro K hK) | ((with_reducible refine wpT_xs0 ?_ ?_ ?_); (focus rfl); (focus rfl); intro K hK) | ((with_reducible refine wpT_q1 ?_ ?_ ?_ ?_); (focus exact wanted_yes _ _ _ rfl rfl rfl); (focus rfl); (focus rfl); intro K hK) | ((with_reducible refine wpT_xs1 ?_ ?_ ?_); (focus exact wanted_yes _ _ _ rfl rfl rfl); (focus rfl); intro K hK) | ((with_reducible refine wpT_nil ?_); try dsimp only)
      | (go_at_call 30; refine (specWorldNew_no me v5 hin).mono ?_; rintro e p5 ⟨rfl, hp5⟩; have hB5e := hB5d.trans (hp5.mono hB5d.size); replace hp5 := hp5)
      | (go_at_call 29; refine (wpWorld_none p5).mono ?_; rintro e u5 ⟨rfl, hq5⟩; have hB5 := hB5e.trans (hq5.mono hB5e.size); have hk5 := hp5.trans (hq5.mono hp5.size); have y0 := keepc hk5 y0; have y1 := keepc hk5 y1; have y2 := keepc hk5 y2; have hl := Nat.lt_of_lt_of_le hlv hk5.size; replace hq5 := hq5)
      | fail)
    go_ret
    exact ⟨rfl, hB5⟩
  · have hok := hide (okWorld_new hin)
    have hag := hide (agree_new hin)
    go_wp2_with fail
    refine (WorldNew_yes me w1 hin).mono ?_
    rintro e w2 ⟨A2, c2, rfl, hc21, hc22, ho2, hb2⟩
    have hB2 := hB1.trans (hb2.mono hB1.size)
    have hA := (Below.refl w2.heap.size w2).alloc (Nat.le_refl _) (.cells #[.int .i64 me, .slice A2 4 c2, .slice none 0 0] 46)
    have hB3 := hB2.trans (hA.mono hB2.size)
    have hl : w2.heap.size < (w2.alloc (.cells #[.int .i64 me, .slice A2 4 c2, .slice none 0 0] 46)).heap.size := by simp
    have y0 : (w2.alloc (.cells #[.int .i64 me, .slice A2 4 c2, .slice none 0 0] 46)).cell? ⟨w2.heap.size, 0, none⟩ = some (.int .i64 me) := by simp
    have y1 : (w2.alloc (.cells #[.int .i64 me, .slice A2 4 c2, .slice none 0 0] 46)).cell? ⟨w2.heap.size, 1, none⟩ = some (.slice A2 4 c2) := by simp
    have y2 : (w2.alloc (.cells #[.int .i64 me, .slice A2 4 c2, .slice none 0 0] 46)).cell? ⟨w2.heap.size, 2, none⟩ = some (.slice none 0 0) := by simp
    have ho3 := ho2.alloc (.cells #[.int .i64 me, .slice A2 4 c2, .slice none 0 0] 46)
    go_wp2_with fail
    generalize w2.alloc (.cells #[.int .i64 me, .slice A2 4 c2, .slice none 0 0] 46) = u3 at *
    refine wp_region_T (Since _) [] [] [12] [0, 1, 2, 3, 4, 5, 6, 7, 8, 9, 10] (by kernel_rfl) (by kernel_rfl) (by kernel_rfl) (Since.drew _) ?_; simp only [pickL, List.getElem?_cons_succ, List.getElem?_cons_zero]
    have hS4 : Since u3 u3.drew := Since.drew _
    have hD4 := (Below.refl u3.heap.size u3).drew
    have y0 := keepc hD4 y0
    have y1 := keepc hD4 y1
    have y2 := keepc hD4 y2
    have hB4d := hB3.trans (hD4.mono hB3.size)
    have hlv := Nat.lt_of_lt_of_le hl hD4.size
    have ho3v := ho3.below hD4 (Nat.le_refl _)
    generalize u3.drew = v4 at *
    go_wp2_with (first
      | (with_reducible refine Since.and_ ?_ ?_; (focus (repeat (first | (with_reducible exact Since.refl _) | assumption | (with_reducible refine Since.drewR ?_) | (with_reducible refine Since.alloc ?_ _) | ((with_reducible apply Since.below); rotate_left; (focus assumption))))); intro hS) | ((with_reducible refine wpT_noL ?_ ?_); (focus (first | exact wanted_no _ _ _ rfl rfl rfl | exact wanted_un _ _ _ rfl rfl rfl)); simp only [setO, List.set_cons_succ, List.set_cons_zero]) | ((with_reducible refine wpT_q0 ?_ ?_ ?_ ?_); (focus rfl); (focus rfl); (focus rfl); intro K hK) | ((with_reducible apply wpT_l); (focus rfl); (focus rfl); (focus rfl); (focus rfl); (focus (first | exact Since.drew _ | assumption)); (focus (simp <;> omega)); (focus go_simp); intro K hK) | ((with_reducible apply wpT_lw); (focus exact wanted_yes _ _ _ rfl rfl rfl); (focus rfl); (focus rfl); (focus rfl); (focus (first | exact Since.drew _ | assumption)); (focus (simp <;> omega)); (focus go_simp); intro K hK) | ((with_reducible refine wpT_xs0 ?_ ?_ ?_); (focus rfl); (focus rfl); intro K hK) | ((with_reducible refine wpT_q1 ?_ ?_ ?_ ?_); (focus exact wanted_yes _ _ _ rfl rfl rfl); (focus rfl); (focus rfl); intro K hK) | ((with_reducible refine wpT_xs1 ?_ ?_ ?_); (focus exact wanted_yes _ _ _ rfl rfl rfl); (focus rfl); intro K hK) | ((with_reducible refine wpT_nil ?_); try dsimp only)
      | (go_at_call 30; refine (specWorldNew_yes me v4 hin).mono ?_; rintro e p4 ⟨A4, c4, rfl, hc41, hc42, ho4p, hp4⟩; have ho4v := ho3v.below hp4 (Nat.le_refl _); have hB4e := hB4d.trans (hp4.mono hB4d.size); replace hp4 := hp4)
      | (go_at_call 29; refine (wpWorld_new me A2 A4 c2 c4 p4 _ _ _ _ ho4v ho4p).mono ?_; rintro e u4 ⟨rfl, hq4⟩; have ho4 := ho4v.below hq4 (Nat.le_refl _); have hB4 := hB4e.trans (hq4.mono hB4e.size); have hk4 := hp4.trans (hq4.mono hp4.size); have y0 := keepc hk4 y0; have y1 := keepc hk4 y1; have y2 := keepc hk4 y2; have hl := Nat.lt_of_lt_of_le hlv hk4.size; replace hq4 := hq4)
      | fail)
    have g4 := (own_repR ho4).mono rep_kept (Nat.zero_le _) (Nat.le_refl _)
    have hn0 := hide (fun W => RdN.nil_ 11 msgR W 0 W.heap.size none 0 (by simp [maxLen]))
    have g4' : RdN 7 repR u4 0 u4.heap.size A2 4 c2 (worldNew me).2.1 := g4
    go_wp2_with fail
    refine (WorldOk_c (worldNew me) A2 none 4 c2 0 0 0 u4.heap.size u4 g4' (hn0.out u4) (Nat.le_refl _)).mono ?_
    rintro e u6 ⟨rfl, hb6⟩
    rw [hok.out]
    have hB6 := hB4.trans (hb6.mono hB4.size)
    have y0 := keepc hb6 y0
    have y1 := keepc hb6 y1
    have y2 := keepc hb6 y2
    have g6 := g4'.below rep_kept hb6 (Nat.le_refl _)
    go_wp2_with fail
    refine (WorldAgree_c (worldNew me) A2 none 4 c2 0 0 0 u4.heap.size u6 g6 (RdN.nil_ _ _ _ _ _ _ _ (by simp [maxLen])) hb6.size).mono ?_
    rintro e u7 ⟨rfl, hb7⟩
    rw [hag.out]
    have hB7 := hB6.trans (hb7.mono hB6.size)
    have y0 := keepc hb7 y0
    have y1 := keepc hb7 y1
    have y2 := keepc hb7 y2
    have e1 : (me == me) = true := by simp
    go_wp2
    go_ret
    exact ⟨rfl, hB7⟩
end Go.Proofs.Ytphlnihmfgmecaa
