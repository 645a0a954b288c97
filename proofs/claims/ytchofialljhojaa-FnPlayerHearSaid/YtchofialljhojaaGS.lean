/-
  'FnPlayerHear' returns true, for every code: who is heard is heard once, and what was sure stays sure.
  Conditions: none.
-/
import Derived.Test.YtchofialljhojaaGP
import Derived.Test.YtchofialljhojaaRegG
import Derived.Test.YtchofialljhojaaGG
import Derived.Test.YtchofialljhojaaGH
namespace Go.Proofs.Ytchofialljhojaa
open Go.RowKit Rg
set_option linter.unusedVariables false

theorem sureF_iff' (xs : List ReplyT) : (sureF xs xs).2 = true ↔ ∃ (j : Nat) (h : j < xs.length), 2 ≤ most xs xs[j] := by
  unfold sureF
  split
  · rename_i t ht
    refine ⟨fun _ => ?_, fun _ => rfl⟩
    obtain ⟨j, hj, he⟩ := List.mem_iff_getElem.1 (List.mem_of_find?_eq_some ht)
    have := List.find?_some ht
    exact ⟨j, hj, by rw [he]; simpa using this⟩
  · rename_i ht
    refine ⟨fun h => (by cases h), fun ⟨j, hj, h⟩ => ?_⟩
    have := List.find?_eq_none.1 ht xs[j] (List.getElem_mem hj)
    simp at this
    omega
theorem most_app (xs : List ReplyT) (t u : ReplyT) : most xs u ≤ most (xs ++ [t]) u := by
  unfold most
  rw [List.filter_append, List.length_append]
  omega
theorem sureF_keep {xs : List ReplyT} {t : ReplyT} (h : (sureF xs xs).2 = true) : (sureF (xs ++ [t]) (xs ++ [t])).2 = true := by
  rw [sureF_iff'] at h ⊢
  obtain ⟨j, hj, h2⟩ := h
  refine ⟨j, by simp; omega, ?_⟩
  rw [List.getElem_append_left hj]
  exact Nat.le_trans h2 (most_app _ _ _)
theorem alike_comm (a b : ReplyT) : alike a b = alike b a := by
  unfold alike
  rw [Bool.beq_comm (a := a.2.2.1), Bool.beq_comm (a := a.2.2.2)]
theorem alike_self (a : ReplyT) : alike a a = true := by simp [alike]
theorem most_two (a b u : ReplyT) (h : 2 ≤ most [a, b] u) : alike a u = true ∧ alike b u = true := by
  unfold most at h
  cases h1 : alike a u <;> cases h2 : alike b u <;> simp [List.filter_cons, h1, h2] at h ⊢
theorem sureF_same {xs : List ReplyT} {t : ReplyT} (h : (sureF xs xs).2 = true) (hl : xs.length ≤ 2) : sureF (xs ++ [t]) (xs ++ [t]) = sureF xs xs := by
  obtain ⟨j, hj, h2⟩ := (sureF_iff' xs).1 h
  have h3 := most_le xs xs[j]
  have hl2 : xs.length = 2 := by omega
  obtain ⟨a, b, rfl⟩ : ∃ a b, xs = [a, b] := by
    match xs, hl2 with
    | [a, b], _ => exact ⟨a, b, rfl⟩
  have ha : alike b a = true := by
    match j, hj, h2 with
    | 0, _, h2 => exact (most_two a b a h2).2
    | 1, _, h2 => rw [alike_comm]; exact (most_two a b b h2).1
  have hm : 2 ≤ most [a, b] a := by simp [most, List.filter_cons, alike_self, ha]
  have hm2 : 2 ≤ most [a, b, t] a := Nat.le_trans hm (most_app [a, b] t a)
  have e1 : sureF [a, b] [a, b] = (a, true) := by simp [sureF, List.find?_cons, hm]
  have e2 : sureF ([a, b] ++ [t]) ([a, b] ++ [t]) = (a, true) := by
    show sureF [a, b, t] [a, b, t] = (a, true)
    simp [sureF, List.find?_cons, hm2]
  rw [e1, e2]
theorem okPl_app {r : ReqV} {xs : List ReplyT} {t : ReplyT} (h : okPl r xs) (hf : fitsL r xs t = true) : okPl r (xs ++ [t]) := by
  refine ⟨fun i hi => ?_, h.2⟩
  have hi' : i < xs.length + 1 := by simpa using hi
  refine ⟨hi, ?_⟩
  by_cases hlt : i < xs.length
  · obtain ⟨_, h2⟩ := h.1 i hlt
    rw [List.getElem_append_left hlt, List.take_append_of_le_length (by omega)]
    exact h2
  · obtain rfl : i = xs.length := by omega
    rw [List.getElem_append_right (Nat.le_refl _), List.take_append_of_le_length (Nat.le_refl _), List.take_length]
    simpa using hf
theorem hear_again {r : ReqV} {xs : List ReplyT} {t : ReplyT} (h : okPl r (xs ++ [t])) : hearL r (xs ++ [t]) t = ((r, xs ++ [t]), false) := by
  have : fitsL r (xs ++ [t]) t = false := by
    simp [fitsL, hasFrom]
  rw [hearL, if_pos h, this]
  rfl
theorem sure_keep {r : ReqV} {xs : List ReplyT} {t : ReplyT} (h0 : okPl r xs) (h1 : okPl r (xs ++ [t])) (h : (sureL r xs).2 = true) : (sureL r (xs ++ [t])).2 = true := by
  rw [sureL, if_pos h0] at h
  rw [sureL, if_pos h1]
  exact sureF_keep h
theorem sure_same {r : ReqV} {xs : List ReplyT} {t : ReplyT} (h0 : okPl r xs) (h1 : okPl r (xs ++ [t])) (h : (sureL r xs).2 = true) (hl : xs.length ≤ 2) : sureL r (xs ++ [t]) = sureL r xs := by
  simp only [sureL, if_pos h0, if_pos h1] at h ⊢
  exact sureF_same h hl
theorem hear_cases (r : ReqV) (xs : List ReplyT) (t : ReplyT) : (hearL r xs t = (((0, 0, 0, 0, 0), []), false) ∧ decide (okPl r xs) = false) ∨ (hearL r xs t = ((r, xs), false) ∧ decide (okPl r xs) = true) ∨ (hearL r xs t = ((r, xs ++ [t]), true) ∧ decide (okPl r xs) = true ∧ okPl r (xs ++ [t])) := by
  by_cases h : okPl r xs
  · cases hf : fitsL r xs t
    · exact .inr (.inl ⟨by rw [hearL, if_pos h, hf]; rfl, decide_eq_true h⟩)
    · exact .inr (.inr ⟨by rw [hearL, if_pos h, hf]; rfl, decide_eq_true h, okPl_app h hf⟩)
  · exact .inl ⟨by rw [hearL, if_neg h], decide_eq_false h⟩

set_option maxRecDepth 100000 in
set_option maxHeartbeats 2000000 in
theorem lawPlayerHearD (A : Option Addr) (n c : Nat) (bs : List Int) (w : World) (hn : n = bs.length) (hc : n ≤ c) (hcm : c ≤ maxLen) (hs : Sl encU 1 w 0 w.heap.size A bs) (hb : ∀ b ∈ bs, 0 ≤ b ∧ b < 256) :
    Calls Try.prog 6 #[.slice A n c] w fun e w' => e = .returned (.bool true) ∧ Below w.heap.size w w' := by
  have hn' := hide hn
  have hb' := hide hb
  clear hn hb
  by_cases hbig : 1048576 < n
  · have d1 : decide (1048576 < (n : Int)) = true := by simp; omega
    go_enter Try.func6, Try.ntmps6
    go_wp2
    go_ret
    exact ⟨rfl, Below.refl _ _⟩
  · have d1 : decide (1048576 < (n : Int)) = false := by simp; omega
    go_enter Try.func6, Try.ntmps6
    go_wp2_with fail
    refine (DrawPlayerHear_c A n c bs w hn'.out hc hcm hs hb'.out).mono ?_
    rintro e w1 ⟨r, A2, n2, c2, xs, t, rfl, rfl, hn10, op, hB⟩
    have hcap := op.cap
    have hs1 : (w1.alloc (.cells #[.int .i64 r.1, .int .i64 r.2.1, .int .i64 r.2.2.1, .int .i64 r.2.2.2.1, .int .i64 r.2.2.2.2, .slice A2 xs.length c2] 32)).heap.size = w1.heap.size + 1 := by simp
    have hA1 : Below w1.heap.size w1 (w1.alloc (.cells #[.int .i64 r.1, .int .i64 r.2.1, .int .i64 r.2.2.1, .int .i64 r.2.2.2.1, .int .i64 r.2.2.2.2, .slice A2 xs.length c2] 32)) := (Below.refl _ _).alloc (Nat.le_refl _) _
    have hA2 : Below (w1.alloc (.cells #[.int .i64 r.1, .int .i64 r.2.1, .int .i64 r.2.2.1, .int .i64 r.2.2.2.1, .int .i64 r.2.2.2.2, .slice A2 xs.length c2] 32)).heap.size (w1.alloc (.cells #[.int .i64 r.1, .int .i64 r.2.1, .int .i64 r.2.2.1, .int .i64 r.2.2.2.1, .int .i64 r.2.2.2.2, .slice A2 xs.length c2] 32)) ((w1.alloc (.cells #[.int .i64 r.1, .int .i64 r.2.1, .int .i64 r.2.2.1, .int .i64 r.2.2.2.1, .int .i64 r.2.2.2.2, .slice A2 xs.length c2] 32)).alloc (.cells #[.int .i64 t.1, .int .i64 t.2.1, .int .i64 t.2.2.1, .int .i64 t.2.2.2] 37)) := (Below.refl _ _).alloc (Nat.le_refl _) _
    have hB := (hB.trans (hA1.mono hB.size)).trans (hA2.mono (by have := hB.size; omega))
    have hx := (Box6.made w1 r.1 r.2.1 r.2.2.1 r.2.2.2.1 r.2.2.2.2 A2 xs.length c2 32).below hA2
    have ht := Box4.made (w1.alloc (.cells #[.int .i64 r.1, .int .i64 r.2.1, .int .i64 r.2.2.1, .int .i64 r.2.2.2.1, .int .i64 r.2.2.2.2, .slice A2 xs.length c2] 32)) t.1 t.2.1 t.2.2.1 t.2.2.2 37
    rw [hs1] at ht
    have op := (op.alloc (.cells #[.int .i64 r.1, .int .i64 r.2.1, .int .i64 r.2.2.1, .int .i64 r.2.2.2.1, .int .i64 r.2.2.2.2, .slice A2 xs.length c2] 32)).alloc (.cells #[.int .i64 t.1, .int .i64 t.2.1, .int .i64 t.2.2.1, .int .i64 t.2.2.2] 37)
    clear hA1 hA2 hs1 hs hb' hn'
    have hx' := hx
    have ht' := ht
    obtain ⟨x0, x1, x2, x3, x4, x5, xf0, xf1, xf2, xf3, xf4, xf5⟩ := hx'
    obtain ⟨t0, t1, t2, t3, tf0, tf1, tf2, tf3⟩ := ht'
    go_wp2_with fail
    generalize (w1.alloc (.cells #[.int .i64 r.1, .int .i64 r.2.1, .int .i64 r.2.2.1, .int .i64 r.2.2.2.1, .int .i64 r.2.2.2.2, .slice A2 xs.length c2] 32)).alloc (.cells #[.int .i64 t.1, .int .i64 t.2.1, .int .i64 t.2.2.1, .int .i64 t.2.2.2] 37) = w2 at *
    rcases hear_cases r xs t with ⟨hh, hk⟩ | ⟨hh, hk⟩ | ⟨hh, hk, hko⟩
    · have hh := hide hh
      have hk := hide hk
      refine (PlayerHear_c r A2 xs.length c2 _ _ xs t w2 rfl (by omega) hcap.1 hcap.2 (op.slAt encReply_len).2.2 (Nat.le_refl _)).mono ?_
      rintro e w3 ⟨r3, A3, n3, c3, b3, rfl, oq, hn3, hr3, hb3, hk3⟩
      rw [hh.out] at oq hn3 hr3 hb3
      dsimp only at oq hn3 hr3 hb3
      obtain rfl : n3 = 0 := by rw [hn3]; rfl
      clear hn3
      subst r3
      subst b3
      have hx := hx.below hk3
      have ht := ht.below hk3
      have op := op.below hk3 (Nat.le_refl _)
      have hB := hB.trans (hk3.mono hB.size)
      have hcapx := oq.cap
      have hA := (Below.refl w3.heap.size w3).alloc (Nat.le_refl _) (.cells #[.int .i64 0, .int .i64 0, .int .i64 0, .int .i64 0, .int .i64 0, .slice A3 0 c3] 32)
      have hB := hB.trans (hA.mono hB.size)
      have hx := hx.below hA
      have ht := ht.below hA
      have op := op.below hA (Nat.le_refl _)
      have oq := oq.below hA (Nat.le_refl _)
      have hy := Box6.made w3 (0) (0) (0) (0) (0) A3 0 c3 32
      have hbb := hx
      obtain ⟨x0, x1, x2, x3, x4, x5, xf0, xf1, xf2, xf3, xf4, xf5⟩ := hbb
      have hbb := ht
      obtain ⟨t0, t1, t2, t3, tf0, tf1, tf2, tf3⟩ := hbb
      have hbb := hy
      obtain ⟨y0, y1, y2, y3, y4, y5, yf0, yf1, yf2, yf3, yf4, yf5⟩ := hbb
      go_wp2_with fail
      clear hA
      generalize w3.alloc (.cells #[.int .i64 0, .int .i64 0, .int .i64 0, .int .i64 0, .int .i64 0, .slice A3 0 c3] 32) = w4 at *
      refine (specPlayerHear_c r A2 xs.length c2 _ _ xs t w4 rfl (by omega) hcap.1 hcap.2 (op.slAt encReply_len).2.2 (Nat.le_refl _)).mono ?_
      rintro e w5 ⟨r4, A4, n4, c4, b4, rfl, ou, hn4, hr4, hb4, hk5⟩
      rw [hh.out] at ou hn4 hr4 hb4
      dsimp only at ou hn4 hr4 hb4
      obtain rfl : n4 = 0 := by rw [hn4]; rfl
      clear hn4
      subst r4
      subst b4
      have hx := hx.below hk5
      have ht := ht.below hk5
      have hy := hy.below hk5
      have op := op.below hk5 (Nat.le_refl _)
      have oq := oq.below hk5 (Nat.le_refl _)
      have hB := hB.trans (hk5.mono hB.size)
      have hA := (Below.refl w5.heap.size w5).alloc (Nat.le_refl _) (.cells #[.int .i64 0, .int .i64 0, .int .i64 0, .int .i64 0, .int .i64 0, .slice A4 0 c4] 32)
      have hB := hB.trans (hA.mono hB.size)
      have hx := hx.below hA
      have ht := ht.below hA
      have hy := hy.below hA
      have op := op.below hA (Nat.le_refl _)
      have oq := oq.below hA (Nat.le_refl _)
      have ou := ou.below hA (Nat.le_refl _)
      have hz := Box6.made w5 (0) (0) (0) (0) (0) A4 0 c4 32
      have hbb := hx
      obtain ⟨x0, x1, x2, x3, x4, x5, xf0, xf1, xf2, xf3, xf4, xf5⟩ := hbb
      have hbb := ht
      obtain ⟨t0, t1, t2, t3, tf0, tf1, tf2, tf3⟩ := hbb
      have hbb := hy
      obtain ⟨y0, y1, y2, y3, y4, y5, yf0, yf1, yf2, yf3, yf4, yf5⟩ := hbb
      have hbb := hz
      obtain ⟨z0, z1, z2, z3, z4, z5, zf0, zf1, zf2, zf3, zf4, zf5⟩ := hbb
      go_wp2_with fail
      clear hA
      generalize w5.alloc (.cells #[.int .i64 0, .int .i64 0, .int .i64 0, .int .i64 0, .int .i64 0, .slice A4 0 c4] 32) = w6 at *
      have hlx := hx.lt
      refine wp_region_T (Since _) [] [] [47] [0, 1, 2, 3, 4, 5, 6, 7, 8, 9, 10, 12, 11, 13, 14, 15, 16, 17, 18, 19, 20] (by kernel_rfl) (by kernel_rfl) (by kernel_rfl) (Since.drew _) ?_; simp only [pickL, List.getElem?_cons_succ, List.getElem?_cons_zero]
      go_wp2_with (first
        | (with_reducible refine Since.and_ ?_ ?_; (focus (repeat (first | (with_reducible exact Since.refl _) | assumption | (with_reducible refine Since.drewR ?_) | (with_reducible refine Since.alloc ?_ _) | ((with_reducible apply Since.below); rotate_left; (focus assumption))))); intro hS) | ((with_reducible refine wpT_q0 ?_ ?_ ?_ ?_); (focus rfl); (focus rfl); (focus rfl); intro K hK) | ((with_reducible apply wpT_l); (focus rfl); (focus rfl); (focus rfl); (focus rfl); (focus (first | exact Since.drew _ | assumption)); (focus (simp <;> omega)); (focus go_simp); intro K hK) | ((with_reducible apply wpT_lw); (focus exact wanted_yes _ _ _ rfl rfl rfl); (focus rfl); (focus rfl); (focus rfl); (focus (first | exact Since.drew _ | assumption)); (focus (simp <;> omega)); (focus go_simp); intro K hK) | ((with_reducible refine wpT_xs0 ?_ ?_ ?_); (focus rfl); (focus rfl); intro K hK) | ((with_reducible refine wpT_noL ?_ ?_); (focus (first | exact wanted_no _ _ _ rfl rfl rfl | exact wanted_un _ _ _ rfl rfl rfl)); simp only [setO, List.set_cons_succ, List.set_cons_zero]) | ((with_reducible refine wpT_q1 ?_ ?_ ?_ ?_); (focus exact wanted_yes _ _ _ rfl rfl rfl); (focus rfl); (focus rfl); intro K hK) | ((with_reducible refine wpT_xs1 ?_ ?_ ?_); (focus exact wanted_yes _ _ _ rfl rfl rfl); (focus rfl); intro K hK) | ((with_reducible refine wpT_nil ?_); try dsimp only)
        | fail)
      have hB := hB.drew
      have hx : Box6 w6.drew _ _ _ _ _ _ _  := hx
      have ht : Box4 w6.drew _ _ _ _ _  := ht
      have hy : Box6 w6.drew _ _ _ _ _ _ _  := hy
      have hz : Box6 w6.drew _ _ _ _ _ _ _  := hz
      have op := op.drew
      have oq := oq.drew
      have ou := ou.drew
      refine (wpSameP_c (r := (0, 0, 0, 0, 0)) oq ou (by simp)).mono ?_
      rintro e w7 ⟨rfl, hk7⟩
      have hx := hx.below hk7
      have ht := ht.below hk7
      have hy := hy.below hk7
      have hz := hz.below hk7
      have op := op.below hk7 (Nat.le_refl _)
      have oq := oq.below hk7 (Nat.le_refl _)
      have ou := ou.below hk7 (Nat.le_refl _)
      have hB := hB.trans (hk7.mono hB.size)
      have hbb := hx
      obtain ⟨x0, x1, x2, x3, x4, x5, xf0, xf1, xf2, xf3, xf4, xf5⟩ := hbb
      have hbb := ht
      obtain ⟨t0, t1, t2, t3, tf0, tf1, tf2, tf3⟩ := hbb
      have hbb := hy
      obtain ⟨y0, y1, y2, y3, y4, y5, yf0, yf1, yf2, yf3, yf4, yf5⟩ := hbb
      have hbb := hz
      obtain ⟨z0, z1, z2, z3, z4, z5, zf0, zf1, zf2, zf3, zf4, zf5⟩ := hbb
      have hL := hk7
      go_wp2_with (first
        | (with_reducible refine Since.and_ ?_ ?_; (focus (repeat (first | (with_reducible exact Since.refl _) | assumption | (with_reducible refine Since.drewR ?_) | (with_reducible refine Since.alloc ?_ _) | ((with_reducible apply Since.below); rotate_left; (focus assumption))))); intro hS) | ((with_reducible refine wpT_q0 ?_ ?_ ?_ ?_); (focus rfl); (focus rfl); (focus rfl); intro K hK) | ((with_reducible apply wpT_l); (focus rfl); (focus rfl); (focus rfl); (focus rfl); (focus (first | exact Since.drew _ | assumption)); (focus (simp <;> omega)); (focus go_simp); intro K hK) | ((with_reducible apply wpT_lw); (focus exact wanted_yes _ _ _ rfl rfl rfl); (focus rfl); (focus rfl); (focus rfl); (focus (first | exact Since.drew _ | assumption)); (focus (simp <;> omega)); (focus go_simp); intro K hK) | ((with_reducible refine wpT_xs0 ?_ ?_ ?_); (focus rfl); (focus rfl); intro K hK) | ((with_reducible refine wpT_noL ?_ ?_); (focus (first | exact wanted_no _ _ _ rfl rfl rfl | exact wanted_un _ _ _ rfl rfl rfl)); simp only [setO, List.set_cons_succ, List.set_cons_zero]) | ((with_reducible refine wpT_q1 ?_ ?_ ?_ ?_); (focus exact wanted_yes _ _ _ rfl rfl rfl); (focus rfl); (focus rfl); intro K hK) | ((with_reducible refine wpT_xs1 ?_ ?_ ?_); (focus exact wanted_yes _ _ _ rfl rfl rfl); (focus rfl); intro K hK) | ((with_reducible refine wpT_nil ?_); try dsimp only)
        | fail)
      refine (PlayerOk_c r A2 xs.length c2 _ _ xs w7 rfl (by omega) hcap.1 hcap.2 (op.slAt encReply_len).2.2 (Nat.le_refl _)).mono ?_
      rintro e w8 ⟨he, hk8⟩
      rw [hk.out] at he
      subst he
      have hx := hx.below hk8
      have ht := ht.below hk8
      have hy := hy.below hk8
      have hz := hz.below hk8
      have op := op.below hk8 (Nat.le_refl _)
      have oq := oq.below hk8 (Nat.le_refl _)
      have ou := ou.below hk8 (Nat.le_refl _)
      have hB := hB.trans (hk8.mono hB.size)
      have hbb := hx
      obtain ⟨x0, x1, x2, x3, x4, x5, xf0, xf1, xf2, xf3, xf4, xf5⟩ := hbb
      have hbb := ht
      obtain ⟨t0, t1, t2, t3, tf0, tf1, tf2, tf3⟩ := hbb
      have hbb := hy
      obtain ⟨y0, y1, y2, y3, y4, y5, yf0, yf1, yf2, yf3, yf4, yf5⟩ := hbb
      have hbb := hz
      obtain ⟨z0, z1, z2, z3, z4, z5, zf0, zf1, zf2, zf3, zf4, zf5⟩ := hbb
      have hL := hk8
      go_wp2_with (first
        | (with_reducible refine Since.and_ ?_ ?_; (focus (repeat (first | (with_reducible exact Since.refl _) | assumption | (with_reducible refine Since.drewR ?_) | (with_reducible refine Since.alloc ?_ _) | ((with_reducible apply Since.below); rotate_left; (focus assumption))))); intro hS) | ((with_reducible refine wpT_q0 ?_ ?_ ?_ ?_); (focus rfl); (focus rfl); (focus rfl); intro K hK) | ((with_reducible apply wpT_l); (focus rfl); (focus rfl); (focus rfl); (focus rfl); (focus (first | exact Since.drew _ | assumption)); (focus (simp <;> omega)); (focus go_simp); intro K hK) | ((with_reducible apply wpT_lw); (focus exact wanted_yes _ _ _ rfl rfl rfl); (focus rfl); (focus rfl); (focus rfl); (focus (first | exact Since.drew _ | assumption)); (focus (simp <;> omega)); (focus go_simp); intro K hK) | ((with_reducible refine wpT_xs0 ?_ ?_ ?_); (focus rfl); (focus rfl); intro K hK) | ((with_reducible refine wpT_noL ?_ ?_); (focus (first | exact wanted_no _ _ _ rfl rfl rfl | exact wanted_un _ _ _ rfl rfl rfl)); simp only [setO, List.set_cons_succ, List.set_cons_zero]) | ((with_reducible refine wpT_q1 ?_ ?_ ?_ ?_); (focus exact wanted_yes _ _ _ rfl rfl rfl); (focus rfl); (focus rfl); intro K hK) | ((with_reducible refine wpT_xs1 ?_ ?_ ?_); (focus exact wanted_yes _ _ _ rfl rfl rfl); (focus rfl); intro K hK) | ((with_reducible refine wpT_nil ?_); try dsimp only)
        | fail)
      refine (specPlayerOk_c r A2 xs.length c2 _ _ xs w8 rfl (by omega) (op.slAt encReply_len).2.2 (Nat.le_refl _)).mono ?_
      rintro e w9 ⟨he, hk9⟩
      rw [hk.out] at he
      subst he
      have hx := hx.below hk9
      have ht := ht.below hk9
      have hy := hy.below hk9
      have hz := hz.below hk9
      have op := op.below hk9 (Nat.le_refl _)
      have oq := oq.below hk9 (Nat.le_refl _)
      have ou := ou.below hk9 (Nat.le_refl _)
      have hB := hB.trans (hk9.mono hB.size)
      have hbb := hx
      obtain ⟨x0, x1, x2, x3, x4, x5, xf0, xf1, xf2, xf3, xf4, xf5⟩ := hbb
      have hbb := ht
      obtain ⟨t0, t1, t2, t3, tf0, tf1, tf2, tf3⟩ := hbb
      have hbb := hy
      obtain ⟨y0, y1, y2, y3, y4, y5, yf0, yf1, yf2, yf3, yf4, yf5⟩ := hbb
      have hbb := hz
      obtain ⟨z0, z1, z2, z3, z4, z5, zf0, zf1, zf2, zf3, zf4, zf5⟩ := hbb
      have hL := hk9
      go_wp2_with (first
        | (with_reducible refine Since.and_ ?_ ?_; (focus (repeat (first | (with_reducible exact Since.refl _) | assumption | (with_reducible refine Since.drewR ?_) | (with_reducible refine Since.alloc ?_ _) | ((with_reducible apply Since.below); rotate_left; (focus assumption))))); intro hS) | ((with_reducible refine wpT_q0 ?_ ?_ ?_ ?_); (focus rfl); (focus rfl); (focus rfl); intro K hK) | ((with_reducible apply wpT_l); (focus rfl); (focus rfl); (focus rfl); (focus rfl); (focus (first | exact Since.drew _ | assumption)); (focus (simp <;> omega)); (focus go_simp); intro K hK) | ((with_reducible apply wpT_lw); (focus exact wanted_yes _ _ _ rfl rfl rfl); (focus rfl); (focus rfl); (focus rfl); (focus (first | exact Since.drew _ | assumption)); (focus (simp <;> omega)); (focus go_simp); intro K hK) | ((with_reducible refine wpT_xs0 ?_ ?_ ?_); (focus rfl); (focus rfl); intro K hK) | ((with_reducible refine wpT_noL ?_ ?_); (focus (first | exact wanted_no _ _ _ rfl rfl rfl | exact wanted_un _ _ _ rfl rfl rfl)); simp only [setO, List.set_cons_succ, List.set_cons_zero]) | ((with_reducible refine wpT_q1 ?_ ?_ ?_ ?_); (focus exact wanted_yes _ _ _ rfl rfl rfl); (focus rfl); (focus rfl); intro K hK) | ((with_reducible refine wpT_xs1 ?_ ?_ ?_); (focus exact wanted_yes _ _ _ rfl rfl rfl); (focus rfl); intro K hK) | ((with_reducible refine wpT_nil ?_); try dsimp only)
        | fail)
      refine (PlayerOk_c r A2 xs.length c2 _ _ xs w9 rfl (by omega) hcap.1 hcap.2 (op.slAt encReply_len).2.2 (Nat.le_refl _)).mono ?_
      rintro e w10 ⟨he, hk10⟩
      rw [hk.out] at he
      subst he
      have hx := hx.below hk10
      have ht := ht.below hk10
      have hy := hy.below hk10
      have hz := hz.below hk10
      have op := op.below hk10 (Nat.le_refl _)
      have oq := oq.below hk10 (Nat.le_refl _)
      have ou := ou.below hk10 (Nat.le_refl _)
      have hB := hB.trans (hk10.mono hB.size)
      have hbb := hx
      obtain ⟨x0, x1, x2, x3, x4, x5, xf0, xf1, xf2, xf3, xf4, xf5⟩ := hbb
      have hbb := ht
      obtain ⟨t0, t1, t2, t3, tf0, tf1, tf2, tf3⟩ := hbb
      have hbb := hy
      obtain ⟨y0, y1, y2, y3, y4, y5, yf0, yf1, yf2, yf3, yf4, yf5⟩ := hbb
      have hbb := hz
      obtain ⟨z0, z1, z2, z3, z4, z5, zf0, zf1, zf2, zf3, zf4, zf5⟩ := hbb
      have hL := hk10
      go_wp2_with (first
        | (with_reducible refine Since.and_ ?_ ?_; (focus (repeat (first | (with_reducible exact Since.refl _) | assumption | (with_reducible refine Since.drewR ?_) | (with_reducible refine Since.alloc ?_ _) | ((with_reducible apply Since.below); rotate_left; (focus assumption))))); intro hS) | ((with_reducible refine wpT_q0 ?_ ?_ ?_ ?_); (focus rfl); (focus rfl); (focus rfl); intro K hK) | ((with_reducible apply wpT_l); (focus rfl); (focus rfl); (focus rfl); (focus rfl); (focus (first | exact Since.drew _ | assumption)); (focus (simp <;> omega)); (focus go_simp); intro K hK) | ((with_reducible apply wpT_lw); (focus exact wanted_yes _ _ _ rfl rfl rfl); (focus rfl); (focus rfl); (focus rfl); (focus (first | exact Since.drew _ | assumption)); (focus (simp <;> omega)); (focus go_simp); intro K hK) | ((with_reducible refine wpT_xs0 ?_ ?_ ?_); (focus rfl); (focus rfl); intro K hK) | ((with_reducible refine wpT_noL ?_ ?_); (focus (first | exact wanted_no _ _ _ rfl rfl rfl | exact wanted_un _ _ _ rfl rfl rfl)); simp only [setO, List.set_cons_succ, List.set_cons_zero]) | ((with_reducible refine wpT_q1 ?_ ?_ ?_ ?_); (focus exact wanted_yes _ _ _ rfl rfl rfl); (focus rfl); (focus rfl); intro K hK) | ((with_reducible refine wpT_xs1 ?_ ?_ ?_); (focus exact wanted_yes _ _ _ rfl rfl rfl); (focus rfl); intro K hK) | ((with_reducible refine wpT_nil ?_); try dsimp only)
        | fail)
      have hlx := hx.lt
      refine wp_region_T (Since _) [] [] [67] [0, 1, 2, 3, 4, 5, 6, 7, 8, 9, 11, 10, 12, 13, 14, 15] (by kernel_rfl) (by kernel_rfl) (by kernel_rfl) (Since.drew _) ?_; simp only [pickL, List.getElem?_cons_succ, List.getElem?_cons_zero]
      go_wp2_with (first
        | (with_reducible refine Since.and_ ?_ ?_; (focus (repeat (first | (with_reducible exact Since.refl _) | assumption | (with_reducible refine Since.drewR ?_) | (with_reducible refine Since.alloc ?_ _) | ((with_reducible apply Since.below); rotate_left; (focus assumption))))); intro hS) | ((with_reducible refine wpT_q0 ?_ ?_ ?_ ?_); (focus rfl); (focus rfl); (focus rfl); intro K hK) | ((with_reducible apply wpT_l); (focus rfl); (focus rfl); (focus rfl); (focus rfl); (focus (first | exact Since.drew _ | assumption)); (focus (simp <;> omega)); (focus go_simp); intro K hK) | ((with_reducible apply wpT_lw); (focus exact wanted_yes _ _ _ rfl rfl rfl); (focus rfl); (focus rfl); (focus rfl); (focus (first | exact Since.drew _ | assumption)); (focus (simp <;> omega)); (focus go_simp); intro K hK) | ((with_reducible refine wpT_xs0 ?_ ?_ ?_); (focus rfl); (focus rfl); intro K hK) | ((with_reducible refine wpT_noL ?_ ?_); (focus (first | exact wanted_no _ _ _ rfl rfl rfl | exact wanted_un _ _ _ rfl rfl rfl)); simp only [setO, List.set_cons_succ, List.set_cons_zero]) | ((with_reducible refine wpT_q1 ?_ ?_ ?_ ?_); (focus exact wanted_yes _ _ _ rfl rfl rfl); (focus rfl); (focus rfl); intro K hK) | ((with_reducible refine wpT_xs1 ?_ ?_ ?_); (focus exact wanted_yes _ _ _ rfl rfl rfl); (focus rfl); intro K hK) | ((with_reducible refine wpT_nil ?_); try dsimp only)
        | fail)
      have hB := hB.drew
      have hx : Box6 w10.drew _ _ _ _ _ _ _  := hx
      have ht : Box4 w10.drew _ _ _ _ _  := ht
      have hy : Box6 w10.drew _ _ _ _ _ _ _  := hy
      have hz : Box6 w10.drew _ _ _ _ _ _ _  := hz
      have op := op.drew
      have oq := oq.drew
      have ou := ou.drew
      refine (wpSameP_c (r := (0, 0, 0, 0, 0)) oq ou (by simp)).mono ?_
      rintro e w11 ⟨rfl, hk11⟩
      have hx := hx.below hk11
      have ht := ht.below hk11
      have hy := hy.below hk11
      have hz := hz.below hk11
      have op := op.below hk11 (Nat.le_refl _)
      have oq := oq.below hk11 (Nat.le_refl _)
      have ou := ou.below hk11 (Nat.le_refl _)
      have hB := hB.trans (hk11.mono hB.size)
      have hbb := hx
      obtain ⟨x0, x1, x2, x3, x4, x5, xf0, xf1, xf2, xf3, xf4, xf5⟩ := hbb
      have hbb := ht
      obtain ⟨t0, t1, t2, t3, tf0, tf1, tf2, tf3⟩ := hbb
      have hbb := hy
      obtain ⟨y0, y1, y2, y3, y4, y5, yf0, yf1, yf2, yf3, yf4, yf5⟩ := hbb
      have hbb := hz
      obtain ⟨z0, z1, z2, z3, z4, z5, zf0, zf1, zf2, zf3, zf4, zf5⟩ := hbb
      have hL := hk11
      go_wp2_with (first
        | (with_reducible refine Since.and_ ?_ ?_; (focus (repeat (first | (with_reducible exact Since.refl _) | assumption | (with_reducible refine Since.drewR ?_) | (with_reducible refine Since.alloc ?_ _) | ((with_reducible apply Since.below); rotate_left; (focus assumption))))); intro hS) | ((with_reducible refine wpT_q0 ?_ ?_ ?_ ?_); (focus rfl); (focus rfl); (focus rfl); intro K hK) | ((with_reducible apply wpT_l); (focus rfl); (focus rfl); (focus rfl); (focus rfl); (focus (first | exact Since.drew _ | assumption)); (focus (simp <;> omega)); (focus go_simp); intro K hK) | ((with_reducible apply wpT_lw); (focus exact wanted_yes _ _ _ rfl rfl rfl); (focus rfl); (focus rfl); (focus rfl); (focus (first | exact Since.drew _ | assumption)); (focus (simp <;> omega)); (focus go_simp); intro K hK) | ((with_reducible refine wpT_xs0 ?_ ?_ ?_); (focus rfl); (focus rfl); intro K hK) | ((with_reducible refine wpT_noL ?_ ?_); (focus (first | exact wanted_no _ _ _ rfl rfl rfl | exact wanted_un _ _ _ rfl rfl rfl)); simp only [setO, List.set_cons_succ, List.set_cons_zero]) | ((with_reducible refine wpT_q1 ?_ ?_ ?_ ?_); (focus exact wanted_yes _ _ _ rfl rfl rfl); (focus rfl); (focus rfl); intro K hK) | ((with_reducible refine wpT_xs1 ?_ ?_ ?_); (focus exact wanted_yes _ _ _ rfl rfl rfl); (focus rfl); intro K hK) | ((with_reducible refine wpT_nil ?_); try dsimp only)
        | fail)
      refine (PlayerOk_c r A2 xs.length c2 _ _ xs w11 rfl (by omega) hcap.1 hcap.2 (op.slAt encReply_len).2.2 (Nat.le_refl _)).mono ?_
      rintro e w12 ⟨he, hk12⟩
      rw [hk.out] at he
      subst he
      have hx := hx.below hk12
      have ht := ht.below hk12
      have hy := hy.below hk12
      have hz := hz.below hk12
      have op := op.below hk12 (Nat.le_refl _)
      have oq := oq.below hk12 (Nat.le_refl _)
      have ou := ou.below hk12 (Nat.le_refl _)
      have hB := hB.trans (hk12.mono hB.size)
      have hbb := hx
      obtain ⟨x0, x1, x2, x3, x4, x5, xf0, xf1, xf2, xf3, xf4, xf5⟩ := hbb
      have hbb := ht
      obtain ⟨t0, t1, t2, t3, tf0, tf1, tf2, tf3⟩ := hbb
      have hbb := hy
      obtain ⟨y0, y1, y2, y3, y4, y5, yf0, yf1, yf2, yf3, yf4, yf5⟩ := hbb
      have hbb := hz
      obtain ⟨z0, z1, z2, z3, z4, z5, zf0, zf1, zf2, zf3, zf4, zf5⟩ := hbb
      have hL := hk12
      go_wp2_with (first
        | (with_reducible refine Since.and_ ?_ ?_; (focus (repeat (first | (with_reducible exact Since.refl _) | assumption | (with_reducible refine Since.drewR ?_) | (with_reducible refine Since.alloc ?_ _) | ((with_reducible apply Since.below); rotate_left; (focus assumption))))); intro hS) | ((with_reducible refine wpT_q0 ?_ ?_ ?_ ?_); (focus rfl); (focus rfl); (focus rfl); intro K hK) | ((with_reducible apply wpT_l); (focus rfl); (focus rfl); (focus rfl); (focus rfl); (focus (first | exact Since.drew _ | assumption)); (focus (simp <;> omega)); (focus go_simp); intro K hK) | ((with_reducible apply wpT_lw); (focus exact wanted_yes _ _ _ rfl rfl rfl); (focus rfl); (focus rfl); (focus rfl); (focus (first | exact Since.drew _ | assumption)); (focus (simp <;> omega)); (focus go_simp); intro K hK) | ((with_reducible refine wpT_xs0 ?_ ?_ ?_); (focus rfl); (focus rfl); intro K hK) | ((with_reducible refine wpT_noL ?_ ?_); (focus (first | exact wanted_no _ _ _ rfl rfl rfl | exact wanted_un _ _ _ rfl rfl rfl)); simp only [setO, List.set_cons_succ, List.set_cons_zero]) | ((with_reducible refine wpT_q1 ?_ ?_ ?_ ?_); (focus exact wanted_yes _ _ _ rfl rfl rfl); (focus rfl); (focus rfl); intro K hK) | ((with_reducible refine wpT_xs1 ?_ ?_ ?_); (focus exact wanted_yes _ _ _ rfl rfl rfl); (focus rfl); intro K hK) | ((with_reducible refine wpT_nil ?_); try dsimp only)
        | fail)
      refine (specPlayerOk_c r A2 xs.length c2 _ _ xs w12 rfl (by omega) (op.slAt encReply_len).2.2 (Nat.le_refl _)).mono ?_
      rintro e w13 ⟨he, hk13⟩
      rw [hk.out] at he
      subst he
      have hx := hx.below hk13
      have ht := ht.below hk13
      have hy := hy.below hk13
      have hz := hz.below hk13
      have op := op.below hk13 (Nat.le_refl _)
      have oq := oq.below hk13 (Nat.le_refl _)
      have ou := ou.below hk13 (Nat.le_refl _)
      have hB := hB.trans (hk13.mono hB.size)
      have hbb := hx
      obtain ⟨x0, x1, x2, x3, x4, x5, xf0, xf1, xf2, xf3, xf4, xf5⟩ := hbb
      have hbb := ht
      obtain ⟨t0, t1, t2, t3, tf0, tf1, tf2, tf3⟩ := hbb
      have hbb := hy
      obtain ⟨y0, y1, y2, y3, y4, y5, yf0, yf1, yf2, yf3, yf4, yf5⟩ := hbb
      have hbb := hz
      obtain ⟨z0, z1, z2, z3, z4, z5, zf0, zf1, zf2, zf3, zf4, zf5⟩ := hbb
      have hL := hk13
      go_wp2_with (first
        | (with_reducible refine Since.and_ ?_ ?_; (focus (repeat (first | (with_reducible exact Since.refl _) | assumption | (with_reducible refine Since.drewR ?_) | (with_reducible refine Since.alloc ?_ _) | ((with_reducible apply Since.below); rotate_left; (focus assumption))))); intro hS) | ((with_reducible refine wpT_q0 ?_ ?_ ?_ ?_); (focus rfl); (focus rfl); (focus rfl); intro K hK) | ((with_reducible apply wpT_l); (focus rfl); (focus rfl); (focus rfl); (focus rfl); (focus (first | exact Since.drew _ | assumption)); (focus (simp <;> omega)); (focus go_simp); intro K hK) | ((with_reducible apply wpT_lw); (focus exact wanted_yes _ _ _ rfl rfl rfl); (focus rfl); (focus rfl); (focus rfl); (focus (first | exact Since.drew _ | assumption)); (focus (simp <;> omega)); (focus go_simp); intro K hK) | ((with_reducible refine wpT_xs0 ?_ ?_ ?_); (focus rfl); (focus rfl); intro K hK) | ((with_reducible refine wpT_noL ?_ ?_); (focus (first | exact wanted_no _ _ _ rfl rfl rfl | exact wanted_un _ _ _ rfl rfl rfl)); simp only [setO, List.set_cons_succ, List.set_cons_zero]) | ((with_reducible refine wpT_q1 ?_ ?_ ?_ ?_); (focus exact wanted_yes _ _ _ rfl rfl rfl); (focus rfl); (focus rfl); intro K hK) | ((with_reducible refine wpT_xs1 ?_ ?_ ?_); (focus exact wanted_yes _ _ _ rfl rfl rfl); (focus rfl); intro K hK) | ((with_reducible refine wpT_nil ?_); try dsimp only)
        | fail)
      go_ret
      exact ⟨rfl, hB⟩
    · have hh := hide hh
      have hk := hide hk
      refine (PlayerHear_c r A2 xs.length c2 _ _ xs t w2 rfl (by omega) hcap.1 hcap.2 (op.slAt encReply_len).2.2 (Nat.le_refl _)).mono ?_
      rintro e w3 ⟨r3, A3, n3, c3, b3, rfl, oq, hn3, hr3, hb3, hk3⟩
      rw [hh.out] at oq hn3 hr3 hb3
      dsimp only at oq hn3 hr3 hb3
      obtain rfl : n3 = xs.length := by rw [hn3]
      clear hn3
      subst r3
      subst b3
      have hx := hx.below hk3
      have ht := ht.below hk3
      have op := op.below hk3 (Nat.le_refl _)
      have hB := hB.trans (hk3.mono hB.size)
      have hcapx := oq.cap
      have hA := (Below.refl w3.heap.size w3).alloc (Nat.le_refl _) (.cells #[.int .i64 r.1, .int .i64 r.2.1, .int .i64 r.2.2.1, .int .i64 r.2.2.2.1, .int .i64 r.2.2.2.2, .slice A3 xs.length c3] 32)
      have hB := hB.trans (hA.mono hB.size)
      have hx := hx.below hA
      have ht := ht.below hA
      have op := op.below hA (Nat.le_refl _)
      have oq := oq.below hA (Nat.le_refl _)
      have hy := Box6.made w3 (r.1) (r.2.1) (r.2.2.1) (r.2.2.2.1) (r.2.2.2.2) A3 xs.length c3 32
      have hbb := hx
      obtain ⟨x0, x1, x2, x3, x4, x5, xf0, xf1, xf2, xf3, xf4, xf5⟩ := hbb
      have hbb := ht
      obtain ⟨t0, t1, t2, t3, tf0, tf1, tf2, tf3⟩ := hbb
      have hbb := hy
      obtain ⟨y0, y1, y2, y3, y4, y5, yf0, yf1, yf2, yf3, yf4, yf5⟩ := hbb
      go_wp2_with fail
      clear hA
      generalize w3.alloc (.cells #[.int .i64 r.1, .int .i64 r.2.1, .int .i64 r.2.2.1, .int .i64 r.2.2.2.1, .int .i64 r.2.2.2.2, .slice A3 xs.length c3] 32) = w4 at *
      refine (specPlayerHear_c r A2 xs.length c2 _ _ xs t w4 rfl (by omega) hcap.1 hcap.2 (op.slAt encReply_len).2.2 (Nat.le_refl _)).mono ?_
      rintro e w5 ⟨r4, A4, n4, c4, b4, rfl, ou, hn4, hr4, hb4, hk5⟩
      rw [hh.out] at ou hn4 hr4 hb4
      dsimp only at ou hn4 hr4 hb4
      obtain rfl : n4 = xs.length := by rw [hn4]
      clear hn4
      subst r4
      subst b4
      have hx := hx.below hk5
      have ht := ht.below hk5
      have hy := hy.below hk5
      have op := op.below hk5 (Nat.le_refl _)
      have oq := oq.below hk5 (Nat.le_refl _)
      have hB := hB.trans (hk5.mono hB.size)
      have hA := (Below.refl w5.heap.size w5).alloc (Nat.le_refl _) (.cells #[.int .i64 r.1, .int .i64 r.2.1, .int .i64 r.2.2.1, .int .i64 r.2.2.2.1, .int .i64 r.2.2.2.2, .slice A4 xs.length c4] 32)
      have hB := hB.trans (hA.mono hB.size)
      have hx := hx.below hA
      have ht := ht.below hA
      have hy := hy.below hA
      have op := op.below hA (Nat.le_refl _)
      have oq := oq.below hA (Nat.le_refl _)
      have ou := ou.below hA (Nat.le_refl _)
      have hz := Box6.made w5 (r.1) (r.2.1) (r.2.2.1) (r.2.2.2.1) (r.2.2.2.2) A4 xs.length c4 32
      have hbb := hx
      obtain ⟨x0, x1, x2, x3, x4, x5, xf0, xf1, xf2, xf3, xf4, xf5⟩ := hbb
      have hbb := ht
      obtain ⟨t0, t1, t2, t3, tf0, tf1, tf2, tf3⟩ := hbb
      have hbb := hy
      obtain ⟨y0, y1, y2, y3, y4, y5, yf0, yf1, yf2, yf3, yf4, yf5⟩ := hbb
      have hbb := hz
      obtain ⟨z0, z1, z2, z3, z4, z5, zf0, zf1, zf2, zf3, zf4, zf5⟩ := hbb
      go_wp2_with fail
      clear hA
      generalize w5.alloc (.cells #[.int .i64 r.1, .int .i64 r.2.1, .int .i64 r.2.2.1, .int .i64 r.2.2.2.1, .int .i64 r.2.2.2.2, .slice A4 xs.length c4] 32) = w6 at *
      have hlx := hx.lt
      refine wp_region_T (Since _) [] [] [47] [0, 1, 2, 3, 4, 5, 6, 7, 8, 9, 10, 12, 11, 13, 14, 15, 16, 17, 18, 19, 20] (by kernel_rfl) (by kernel_rfl) (by kernel_rfl) (Since.drew _) ?_; simp only [pickL, List.getElem?_cons_succ, List.getElem?_cons_zero]
      go_wp2_with (first
        | (with_reducible refine Since.and_ ?_ ?_; (focus (repeat (first | (with_reducible exact Since.refl _) | assumption | (with_reducible refine Since.drewR ?_) | (with_reducible refine Since.alloc ?_ _) | ((with_reducible apply Since.below); rotate_left; (focus assumption))))); intro hS) | ((with_reducible refine wpT_q0 ?_ ?_ ?_ ?_); (focus rfl); (focus rfl); (focus rfl); intro K hK) | ((with_reducible apply wpT_l); (focus rfl); (focus rfl); (focus rfl); (focus rfl); (focus (first | exact Since.drew _ | assumption)); (focus (simp <;> omega)); (focus go_simp); intro K hK) | ((with_reducible apply wpT_lw); (focus exact wanted_yes _ _ _ rfl rfl rfl); (focus rfl); (focus rfl); (focus rfl); (focus (first | exact Since.drew _ | assumption)); (focus (simp <;> omega)); (focus go_simp); intro K hK) | ((with_reducible refine wpT_xs0 ?_ ?_ ?_); (focus rfl); (focus rfl); intro K hK) | ((with_reducible refine wpT_noL ?_ ?_); (focus (first | exact wanted_no _ _ _ rfl rfl rfl | exact wanted_un _ _ _ rfl rfl rfl)); simp only [setO, List.set_cons_succ, List.set_cons_zero]) | ((with_reducible refine wpT_q1 ?_ ?_ ?_ ?_); (focus exact wanted_yes _ _ _ rfl rfl rfl); (focus rfl); (focus rfl); intro K hK) | ((with_reducible refine wpT_xs1 ?_ ?_ ?_); (focus exact wanted_yes _ _ _ rfl rfl rfl); (focus rfl); intro K hK) | ((with_reducible refine wpT_nil ?_); try dsimp only)
        | fail)
      have hB := hB.drew
      have hx : Box6 w6.drew _ _ _ _ _ _ _  := hx
      have ht : Box4 w6.drew _ _ _ _ _  := ht
      have hy : Box6 w6.drew _ _ _ _ _ _ _  := hy
      have hz : Box6 w6.drew _ _ _ _ _ _ _  := hz
      have op := op.drew
      have oq := oq.drew
      have ou := ou.drew
      refine (wpSameP_c (r := r) oq ou (by omega)).mono ?_
      rintro e w7 ⟨rfl, hk7⟩
      have hx := hx.below hk7
      have ht := ht.below hk7
      have hy := hy.below hk7
      have hz := hz.below hk7
      have op := op.below hk7 (Nat.le_refl _)
      have oq := oq.below hk7 (Nat.le_refl _)
      have ou := ou.below hk7 (Nat.le_refl _)
      have hB := hB.trans (hk7.mono hB.size)
      have hbb := hx
      obtain ⟨x0, x1, x2, x3, x4, x5, xf0, xf1, xf2, xf3, xf4, xf5⟩ := hbb
      have hbb := ht
      obtain ⟨t0, t1, t2, t3, tf0, tf1, tf2, tf3⟩ := hbb
      have hbb := hy
      obtain ⟨y0, y1, y2, y3, y4, y5, yf0, yf1, yf2, yf3, yf4, yf5⟩ := hbb
      have hbb := hz
      obtain ⟨z0, z1, z2, z3, z4, z5, zf0, zf1, zf2, zf3, zf4, zf5⟩ := hbb
      have hL := hk7
      go_wp2_with (first
        | (with_reducible refine Since.and_ ?_ ?_; (focus (repeat (first | (with_reducible exact Since.refl _) | assumption | (with_reducible refine Since.drewR ?_) | (with_reducible refine Since.alloc ?_ _) | ((with_reducible apply Since.below); rotate_left; (focus assumption))))); intro hS) | ((with_reducible refine wpT_q0 ?_ ?_ ?_ ?_); (focus rfl); (focus rfl); (focus rfl); intro K hK) | ((with_reducible apply wpT_l); (focus rfl); (focus rfl); (focus rfl); (focus rfl); (focus (first | exact Since.drew _ | assumption)); (focus (simp <;> omega)); (focus go_simp); intro K hK) | ((with_reducible apply wpT_lw); (focus exact wanted_yes _ _ _ rfl rfl rfl); (focus rfl); (focus rfl); (focus rfl); (focus (first | exact Since.drew _ | assumption)); (focus (simp <;> omega)); (focus go_simp); intro K hK) | ((with_reducible refine wpT_xs0 ?_ ?_ ?_); (focus rfl); (focus rfl); intro K hK) | ((with_reducible refine wpT_noL ?_ ?_); (focus (first | exact wanted_no _ _ _ rfl rfl rfl | exact wanted_un _ _ _ rfl rfl rfl)); simp only [setO, List.set_cons_succ, List.set_cons_zero]) | ((with_reducible refine wpT_q1 ?_ ?_ ?_ ?_); (focus exact wanted_yes _ _ _ rfl rfl rfl); (focus rfl); (focus rfl); intro K hK) | ((with_reducible refine wpT_xs1 ?_ ?_ ?_); (focus exact wanted_yes _ _ _ rfl rfl rfl); (focus rfl); intro K hK) | ((with_reducible refine wpT_nil ?_); try dsimp only)
        | fail)
      refine (PlayerOk_c r A2 xs.length c2 _ _ xs w7 rfl (by omega) hcap.1 hcap.2 (op.slAt encReply_len).2.2 (Nat.le_refl _)).mono ?_
      rintro e w8 ⟨he, hk8⟩
      rw [hk.out] at he
      subst he
      have hx := hx.below hk8
      have ht := ht.below hk8
      have hy := hy.below hk8
      have hz := hz.below hk8
      have op := op.below hk8 (Nat.le_refl _)
      have oq := oq.below hk8 (Nat.le_refl _)
      have ou := ou.below hk8 (Nat.le_refl _)
      have hB := hB.trans (hk8.mono hB.size)
      have hbb := hx
      obtain ⟨x0, x1, x2, x3, x4, x5, xf0, xf1, xf2, xf3, xf4, xf5⟩ := hbb
      have hbb := ht
      obtain ⟨t0, t1, t2, t3, tf0, tf1, tf2, tf3⟩ := hbb
      have hbb := hy
      obtain ⟨y0, y1, y2, y3, y4, y5, yf0, yf1, yf2, yf3, yf4, yf5⟩ := hbb
      have hbb := hz
      obtain ⟨z0, z1, z2, z3, z4, z5, zf0, zf1, zf2, zf3, zf4, zf5⟩ := hbb
      have hL := hk8
      go_wp2_with (first
        | (with_reducible refine Since.and_ ?_ ?_; (focus (repeat (first | (with_reducible exact Since.refl _) | assumption | (with_reducible refine Since.drewR ?_) | (with_reducible refine Since.alloc ?_ _) | ((with_reducible apply Since.below); rotate_left; (focus assumption))))); intro hS) | ((with_reducible refine wpT_q0 ?_ ?_ ?_ ?_); (focus rfl); (focus rfl); (focus rfl); intro K hK) | ((with_reducible apply wpT_l); (focus rfl); (focus rfl); (focus rfl); (focus rfl); (focus (first | exact Since.drew _ | assumption)); (focus (simp <;> omega)); (focus go_simp); intro K hK) | ((with_reducible apply wpT_lw); (focus exact wanted_yes _ _ _ rfl rfl rfl); (focus rfl); (focus rfl); (focus rfl); (focus (first | exact Since.drew _ | assumption)); (focus (simp <;> omega)); (focus go_simp); intro K hK) | ((with_reducible refine wpT_xs0 ?_ ?_ ?_); (focus rfl); (focus rfl); intro K hK) | ((with_reducible refine wpT_noL ?_ ?_); (focus (first | exact wanted_no _ _ _ rfl rfl rfl | exact wanted_un _ _ _ rfl rfl rfl)); simp only [setO, List.set_cons_succ, List.set_cons_zero]) | ((with_reducible refine wpT_q1 ?_ ?_ ?_ ?_); (focus exact wanted_yes _ _ _ rfl rfl rfl); (focus rfl); (focus rfl); intro K hK) | ((with_reducible refine wpT_xs1 ?_ ?_ ?_); (focus exact wanted_yes _ _ _ rfl rfl rfl); (focus rfl); intro K hK) | ((with_reducible refine wpT_nil ?_); try dsimp only)
        | fail)
      refine (specPlayerOk_c r A2 xs.length c2 _ _ xs w8 rfl (by omega) (op.slAt encReply_len).2.2 (Nat.le_refl _)).mono ?_
      rintro e w9 ⟨he, hk9⟩
      rw [hk.out] at he
      subst he
      have hx := hx.below hk9
      have ht := ht.below hk9
      have hy := hy.below hk9
      have hz := hz.below hk9
      have op := op.below hk9 (Nat.le_refl _)
      have oq := oq.below hk9 (Nat.le_refl _)
      have ou := ou.below hk9 (Nat.le_refl _)
      have hB := hB.trans (hk9.mono hB.size)
      have hbb := hx
      obtain ⟨x0, x1, x2, x3, x4, x5, xf0, xf1, xf2, xf3, xf4, xf5⟩ := hbb
      have hbb := ht
      obtain ⟨t0, t1, t2, t3, tf0, tf1, tf2, tf3⟩ := hbb
      have hbb := hy
      obtain ⟨y0, y1, y2, y3, y4, y5, yf0, yf1, yf2, yf3, yf4, yf5⟩ := hbb
      have hbb := hz
      obtain ⟨z0, z1, z2, z3, z4, z5, zf0, zf1, zf2, zf3, zf4, zf5⟩ := hbb
      have hL := hk9
      go_wp2_with (first
        | (with_reducible refine Since.and_ ?_ ?_; (focus (repeat (first | (with_reducible exact Since.refl _) | assumption | (with_reducible refine Since.drewR ?_) | (with_reducible refine Since.alloc ?_ _) | ((with_reducible apply Since.below); rotate_left; (focus assumption))))); intro hS) | ((with_reducible refine wpT_q0 ?_ ?_ ?_ ?_); (focus rfl); (focus rfl); (focus rfl); intro K hK) | ((with_reducible apply wpT_l); (focus rfl); (focus rfl); (focus rfl); (focus rfl); (focus (first | exact Since.drew _ | assumption)); (focus (simp <;> omega)); (focus go_simp); intro K hK) | ((with_reducible apply wpT_lw); (focus exact wanted_yes _ _ _ rfl rfl rfl); (focus rfl); (focus rfl); (focus rfl); (focus (first | exact Since.drew _ | assumption)); (focus (simp <;> omega)); (focus go_simp); intro K hK) | ((with_reducible refine wpT_xs0 ?_ ?_ ?_); (focus rfl); (focus rfl); intro K hK) | ((with_reducible refine wpT_noL ?_ ?_); (focus (first | exact wanted_no _ _ _ rfl rfl rfl | exact wanted_un _ _ _ rfl rfl rfl)); simp only [setO, List.set_cons_succ, List.set_cons_zero]) | ((with_reducible refine wpT_q1 ?_ ?_ ?_ ?_); (focus exact wanted_yes _ _ _ rfl rfl rfl); (focus rfl); (focus rfl); intro K hK) | ((with_reducible refine wpT_xs1 ?_ ?_ ?_); (focus exact wanted_yes _ _ _ rfl rfl rfl); (focus rfl); intro K hK) | ((with_reducible refine wpT_nil ?_); try dsimp only)
        | fail)
      refine (PlayerOk_c r A2 xs.length c2 _ _ xs w9 rfl (by omega) hcap.1 hcap.2 (op.slAt encReply_len).2.2 (Nat.le_refl _)).mono ?_
      rintro e w10 ⟨he, hk10⟩
      rw [hk.out] at he
      subst he
      have hx := hx.below hk10
      have ht := ht.below hk10
      have hy := hy.below hk10
      have hz := hz.below hk10
      have op := op.below hk10 (Nat.le_refl _)
      have oq := oq.below hk10 (Nat.le_refl _)
      have ou := ou.below hk10 (Nat.le_refl _)
      have hB := hB.trans (hk10.mono hB.size)
      have hbb := hx
      obtain ⟨x0, x1, x2, x3, x4, x5, xf0, xf1, xf2, xf3, xf4, xf5⟩ := hbb
      have hbb := ht
      obtain ⟨t0, t1, t2, t3, tf0, tf1, tf2, tf3⟩ := hbb
      have hbb := hy
      obtain ⟨y0, y1, y2, y3, y4, y5, yf0, yf1, yf2, yf3, yf4, yf5⟩ := hbb
      have hbb := hz
      obtain ⟨z0, z1, z2, z3, z4, z5, zf0, zf1, zf2, zf3, zf4, zf5⟩ := hbb
      have hL := hk10
      go_wp2_with (first
        | (with_reducible refine Since.and_ ?_ ?_; (focus (repeat (first | (with_reducible exact Since.refl _) | assumption | (with_reducible refine Since.drewR ?_) | (with_reducible refine Since.alloc ?_ _) | ((with_reducible apply Since.below); rotate_left; (focus assumption))))); intro hS) | ((with_reducible refine wpT_q0 ?_ ?_ ?_ ?_); (focus rfl); (focus rfl); (focus rfl); intro K hK) | ((with_reducible apply wpT_l); (focus rfl); (focus rfl); (focus rfl); (focus rfl); (focus (first | exact Since.drew _ | assumption)); (focus (simp <;> omega)); (focus go_simp); intro K hK) | ((with_reducible apply wpT_lw); (focus exact wanted_yes _ _ _ rfl rfl rfl); (focus rfl); (focus rfl); (focus rfl); (focus (first | exact Since.drew _ | assumption)); (focus (simp <;> omega)); (focus go_simp); intro K hK) | ((with_reducible refine wpT_xs0 ?_ ?_ ?_); (focus rfl); (focus rfl); intro K hK) | ((with_reducible refine wpT_noL ?_ ?_); (focus (first | exact wanted_no _ _ _ rfl rfl rfl | exact wanted_un _ _ _ rfl rfl rfl)); simp only [setO, List.set_cons_succ, List.set_cons_zero]) | ((with_reducible refine wpT_q1 ?_ ?_ ?_ ?_); (focus exact wanted_yes _ _ _ rfl rfl rfl); (focus rfl); (focus rfl); intro K hK) | ((with_reducible refine wpT_xs1 ?_ ?_ ?_); (focus exact wanted_yes _ _ _ rfl rfl rfl); (focus rfl); intro K hK) | ((with_reducible refine wpT_nil ?_); try dsimp only)
        | fail)
      refine (wpSameP_c (r := r) oq op (by omega)).mono ?_
      rintro e w11 ⟨rfl, hk11⟩
      have hx := hx.below hk11
      have ht := ht.below hk11
      have hy := hy.below hk11
      have hz := hz.below hk11
      have op := op.below hk11 (Nat.le_refl _)
      have oq := oq.below hk11 (Nat.le_refl _)
      have ou := ou.below hk11 (Nat.le_refl _)
      have hB := hB.trans (hk11.mono hB.size)
      have hbb := hx
      obtain ⟨x0, x1, x2, x3, x4, x5, xf0, xf1, xf2, xf3, xf4, xf5⟩ := hbb
      have hbb := ht
      obtain ⟨t0, t1, t2, t3, tf0, tf1, tf2, tf3⟩ := hbb
      have hbb := hy
      obtain ⟨y0, y1, y2, y3, y4, y5, yf0, yf1, yf2, yf3, yf4, yf5⟩ := hbb
      have hbb := hz
      obtain ⟨z0, z1, z2, z3, z4, z5, zf0, zf1, zf2, zf3, zf4, zf5⟩ := hbb
      have hL := hk11
      go_wp2
      go_ret
      exact ⟨rfl, hB⟩
    · have hh := hide hh
      have hk := hide hk
      have hh2 := hide (hear_again hko)
      refine (PlayerHear_c r A2 xs.length c2 _ _ xs t w2 rfl (by omega) hcap.1 hcap.2 (op.slAt encReply_len).2.2 (Nat.le_refl _)).mono ?_
      rintro e w3 ⟨r3, A3, n3, c3, b3, rfl, oq, hn3, hr3, hb3, hk3⟩
      rw [hh.out] at oq hn3 hr3 hb3
      dsimp only at oq hn3 hr3 hb3
      obtain rfl : n3 = (xs.length + 1) := by rw [hn3]; simp
      clear hn3
      subst r3
      subst b3
      have hx := hx.below hk3
      have ht := ht.below hk3
      have op := op.below hk3 (Nat.le_refl _)
      have hB := hB.trans (hk3.mono hB.size)
      have hcapx := oq.cap
      have hA := (Below.refl w3.heap.size w3).alloc (Nat.le_refl _) (.cells #[.int .i64 r.1, .int .i64 r.2.1, .int .i64 r.2.2.1, .int .i64 r.2.2.2.1, .int .i64 r.2.2.2.2, .slice A3 (xs.length + 1) c3] 32)
      have hB := hB.trans (hA.mono hB.size)
      have hx := hx.below hA
      have ht := ht.below hA
      have op := op.below hA (Nat.le_refl _)
      have oq := oq.below hA (Nat.le_refl _)
      have hy := Box6.made w3 (r.1) (r.2.1) (r.2.2.1) (r.2.2.2.1) (r.2.2.2.2) A3 (xs.length + 1) c3 32
      have hbb := hx
      obtain ⟨x0, x1, x2, x3, x4, x5, xf0, xf1, xf2, xf3, xf4, xf5⟩ := hbb
      have hbb := ht
      obtain ⟨t0, t1, t2, t3, tf0, tf1, tf2, tf3⟩ := hbb
      have hbb := hy
      obtain ⟨y0, y1, y2, y3, y4, y5, yf0, yf1, yf2, yf3, yf4, yf5⟩ := hbb
      go_wp2_with fail
      clear hA
      generalize w3.alloc (.cells #[.int .i64 r.1, .int .i64 r.2.1, .int .i64 r.2.2.1, .int .i64 r.2.2.2.1, .int .i64 r.2.2.2.2, .slice A3 (xs.length + 1) c3] 32) = w4 at *
      refine (specPlayerHear_c r A2 xs.length c2 _ _ xs t w4 rfl (by omega) hcap.1 hcap.2 (op.slAt encReply_len).2.2 (Nat.le_refl _)).mono ?_
      rintro e w5 ⟨r4, A4, n4, c4, b4, rfl, ou, hn4, hr4, hb4, hk5⟩
      rw [hh.out] at ou hn4 hr4 hb4
      dsimp only at ou hn4 hr4 hb4
      obtain rfl : n4 = (xs.length + 1) := by rw [hn4]; simp
      clear hn4
      subst r4
      subst b4
      have hx := hx.below hk5
      have ht := ht.below hk5
      have hy := hy.below hk5
      have op := op.below hk5 (Nat.le_refl _)
      have oq := oq.below hk5 (Nat.le_refl _)
      have hB := hB.trans (hk5.mono hB.size)
      have hA := (Below.refl w5.heap.size w5).alloc (Nat.le_refl _) (.cells #[.int .i64 r.1, .int .i64 r.2.1, .int .i64 r.2.2.1, .int .i64 r.2.2.2.1, .int .i64 r.2.2.2.2, .slice A4 (xs.length + 1) c4] 32)
      have hB := hB.trans (hA.mono hB.size)
      have hx := hx.below hA
      have ht := ht.below hA
      have hy := hy.below hA
      have op := op.below hA (Nat.le_refl _)
      have oq := oq.below hA (Nat.le_refl _)
      have ou := ou.below hA (Nat.le_refl _)
      have hz := Box6.made w5 (r.1) (r.2.1) (r.2.2.1) (r.2.2.2.1) (r.2.2.2.2) A4 (xs.length + 1) c4 32
      have hbb := hx
      obtain ⟨x0, x1, x2, x3, x4, x5, xf0, xf1, xf2, xf3, xf4, xf5⟩ := hbb
      have hbb := ht
      obtain ⟨t0, t1, t2, t3, tf0, tf1, tf2, tf3⟩ := hbb
      have hbb := hy
      obtain ⟨y0, y1, y2, y3, y4, y5, yf0, yf1, yf2, yf3, yf4, yf5⟩ := hbb
      have hbb := hz
      obtain ⟨z0, z1, z2, z3, z4, z5, zf0, zf1, zf2, zf3, zf4, zf5⟩ := hbb
      go_wp2_with fail
      clear hA
      generalize w5.alloc (.cells #[.int .i64 r.1, .int .i64 r.2.1, .int .i64 r.2.2.1, .int .i64 r.2.2.2.1, .int .i64 r.2.2.2.2, .slice A4 (xs.length + 1) c4] 32) = w6 at *
      have hlx := hx.lt
      refine wp_region_T (Since _) [] [] [47] [0, 1, 2, 3, 4, 5, 6, 7, 8, 9, 10, 12, 11, 13, 14, 15, 16, 17, 18, 19, 20] (by kernel_rfl) (by kernel_rfl) (by kernel_rfl) (Since.drew _) ?_; simp only [pickL, List.getElem?_cons_succ, List.getElem?_cons_zero]
      go_wp2_with (first
        | (with_reducible refine Since.and_ ?_ ?_; (focus (repeat (first | (with_reducible exact Since.refl _) | assumption | (with_reducible refine Since.drewR ?_) | (with_reducible refine Since.alloc ?_ _) | ((with_reducible apply Since.below); rotate_left; (focus assumption))))); intro hS) | ((with_reducible refine wpT_q0 ?_ ?_ ?_ ?_); (focus rfl); (focus rfl); (focus rfl); intro K hK) | ((with_reducible apply wpT_l); (focus rfl); (focus rfl); (focus rfl); (focus rfl); (focus (first | exact Since.drew _ | assumption)); (focus (simp <;> omega)); (focus go_simp); intro K hK) | ((with_reducible apply wpT_lw); (focus exact wanted_yes _ _ _ rfl rfl rfl); (focus rfl); (focus rfl); (focus rfl); (focus (first | exact Since.drew _ | assumption)); (focus (simp <;> omega)); (focus go_simp); intro K hK) | ((with_reducible refine wpT_xs0 ?_ ?_ ?_); (focus rfl); (focus rfl); intro K hK) | ((with_reducible refine wpT_noL ?_ ?_); (focus (first | exact wanted_no _ _ _ rfl rfl rfl | exact wanted_un _ _ _ rfl rfl rfl)); simp only [setO, List.set_cons_succ, List.set_cons_zero]) | ((with_reducible refine wpT_q1 ?_ ?_ ?_ ?_); (focus exact wanted_yes _ _ _ rfl rfl rfl); (focus rfl); (focus rfl); intro K hK) | ((with_reducible refine wpT_xs1 ?_ ?_ ?_); (focus exact wanted_yes _ _ _ rfl rfl rfl); (focus rfl); intro K hK) | ((with_reducible refine wpT_nil ?_); try dsimp only)
        | fail)
      have hB := hB.drew
      have hx : Box6 w6.drew _ _ _ _ _ _ _  := hx
      have ht : Box4 w6.drew _ _ _ _ _  := ht
      have hy : Box6 w6.drew _ _ _ _ _ _ _  := hy
      have hz : Box6 w6.drew _ _ _ _ _ _ _  := hz
      have op := op.drew
      have oq := oq.drew
      have ou := ou.drew
      refine (wpSameP_c (r := r) oq ou (by simp; omega)).mono ?_
      rintro e w7 ⟨rfl, hk7⟩
      have hx := hx.below hk7
      have ht := ht.below hk7
      have hy := hy.below hk7
      have hz := hz.below hk7
      have op := op.below hk7 (Nat.le_refl _)
      have oq := oq.below hk7 (Nat.le_refl _)
      have ou := ou.below hk7 (Nat.le_refl _)
      have hB := hB.trans (hk7.mono hB.size)
      have hbb := hx
      obtain ⟨x0, x1, x2, x3, x4, x5, xf0, xf1, xf2, xf3, xf4, xf5⟩ := hbb
      have hbb := ht
      obtain ⟨t0, t1, t2, t3, tf0, tf1, tf2, tf3⟩ := hbb
      have hbb := hy
      obtain ⟨y0, y1, y2, y3, y4, y5, yf0, yf1, yf2, yf3, yf4, yf5⟩ := hbb
      have hbb := hz
      obtain ⟨z0, z1, z2, z3, z4, z5, zf0, zf1, zf2, zf3, zf4, zf5⟩ := hbb
      have hL := hk7
      go_wp2_with (first
        | (with_reducible refine Since.and_ ?_ ?_; (focus (repeat (first | (with_reducible exact Since.refl _) | assumption | (with_reducible refine Since.drewR ?_) | (with_reducible refine Since.alloc ?_ _) | ((with_reducible apply Since.below); rotate_left; (focus assumption))))); intro hS) | ((with_reducible refine wpT_q0 ?_ ?_ ?_ ?_); (focus rfl); (focus rfl); (focus rfl); intro K hK) | ((with_reducible apply wpT_l); (focus rfl); (focus rfl); (focus rfl); (focus rfl); (focus (first | exact Since.drew _ | assumption)); (focus (simp <;> omega)); (focus go_simp); intro K hK) | ((with_reducible apply wpT_lw); (focus exact wanted_yes _ _ _ rfl rfl rfl); (focus rfl); (focus rfl); (focus rfl); (focus (first | exact Since.drew _ | assumption)); (focus (simp <;> omega)); (focus go_simp); intro K hK) | ((with_reducible refine wpT_xs0 ?_ ?_ ?_); (focus rfl); (focus rfl); intro K hK) | ((with_reducible refine wpT_noL ?_ ?_); (focus (first | exact wanted_no _ _ _ rfl rfl rfl | exact wanted_un _ _ _ rfl rfl rfl)); simp only [setO, List.set_cons_succ, List.set_cons_zero]) | ((with_reducible refine wpT_q1 ?_ ?_ ?_ ?_); (focus exact wanted_yes _ _ _ rfl rfl rfl); (focus rfl); (focus rfl); intro K hK) | ((with_reducible refine wpT_xs1 ?_ ?_ ?_); (focus exact wanted_yes _ _ _ rfl rfl rfl); (focus rfl); intro K hK) | ((with_reducible refine wpT_nil ?_); try dsimp only)
        | fail)
      refine (PlayerOk_c r A2 xs.length c2 _ _ xs w7 rfl (by omega) hcap.1 hcap.2 (op.slAt encReply_len).2.2 (Nat.le_refl _)).mono ?_
      rintro e w8 ⟨he, hk8⟩
      rw [hk.out] at he
      subst he
      have hx := hx.below hk8
      have ht := ht.below hk8
      have hy := hy.below hk8
      have hz := hz.below hk8
      have op := op.below hk8 (Nat.le_refl _)
      have oq := oq.below hk8 (Nat.le_refl _)
      have ou := ou.below hk8 (Nat.le_refl _)
      have hB := hB.trans (hk8.mono hB.size)
      have hbb := hx
      obtain ⟨x0, x1, x2, x3, x4, x5, xf0, xf1, xf2, xf3, xf4, xf5⟩ := hbb
      have hbb := ht
      obtain ⟨t0, t1, t2, t3, tf0, tf1, tf2, tf3⟩ := hbb
      have hbb := hy
      obtain ⟨y0, y1, y2, y3, y4, y5, yf0, yf1, yf2, yf3, yf4, yf5⟩ := hbb
      have hbb := hz
      obtain ⟨z0, z1, z2, z3, z4, z5, zf0, zf1, zf2, zf3, zf4, zf5⟩ := hbb
      have hL := hk8
      go_wp2_with (first
        | (with_reducible refine Since.and_ ?_ ?_; (focus (repeat (first | (with_reducible exact Since.refl _) | assumption | (with_reducible refine Since.drewR ?_) | (with_reducible refine Since.alloc ?_ _) | ((with_reducible apply Since.below); rotate_left; (focus assumption))))); intro hS) | ((with_reducible refine wpT_q0 ?_ ?_ ?_ ?_); (focus rfl); (focus rfl); (focus rfl); intro K hK) | ((with_reducible apply wpT_l); (focus rfl); (focus rfl); (focus rfl); (focus rfl); (focus (first | exact Since.drew _ | assumption)); (focus (simp <;> omega)); (focus go_simp); intro K hK) | ((with_reducible apply wpT_lw); (focus exact wanted_yes _ _ _ rfl rfl rfl); (focus rfl); (focus rfl); (focus rfl); (focus (first | exact Since.drew _ | assumption)); (focus (simp <;> omega)); (focus go_simp); intro K hK) | ((with_reducible refine wpT_xs0 ?_ ?_ ?_); (focus rfl); (focus rfl); intro K hK) | ((with_reducible refine wpT_noL ?_ ?_); (focus (first | exact wanted_no _ _ _ rfl rfl rfl | exact wanted_un _ _ _ rfl rfl rfl)); simp only [setO, List.set_cons_succ, List.set_cons_zero]) | ((with_reducible refine wpT_q1 ?_ ?_ ?_ ?_); (focus exact wanted_yes _ _ _ rfl rfl rfl); (focus rfl); (focus rfl); intro K hK) | ((with_reducible refine wpT_xs1 ?_ ?_ ?_); (focus exact wanted_yes _ _ _ rfl rfl rfl); (focus rfl); intro K hK) | ((with_reducible refine wpT_nil ?_); try dsimp only)
        | fail)
      refine (specPlayerOk_c r A2 xs.length c2 _ _ xs w8 rfl (by omega) (op.slAt encReply_len).2.2 (Nat.le_refl _)).mono ?_
      rintro e w9 ⟨he, hk9⟩
      rw [hk.out] at he
      subst he
      have hx := hx.below hk9
      have ht := ht.below hk9
      have hy := hy.below hk9
      have hz := hz.below hk9
      have op := op.below hk9 (Nat.le_refl _)
      have oq := oq.below hk9 (Nat.le_refl _)
      have ou := ou.below hk9 (Nat.le_refl _)
      have hB := hB.trans (hk9.mono hB.size)
      have hbb := hx
      obtain ⟨x0, x1, x2, x3, x4, x5, xf0, xf1, xf2, xf3, xf4, xf5⟩ := hbb
      have hbb := ht
      obtain ⟨t0, t1, t2, t3, tf0, tf1, tf2, tf3⟩ := hbb
      have hbb := hy
      obtain ⟨y0, y1, y2, y3, y4, y5, yf0, yf1, yf2, yf3, yf4, yf5⟩ := hbb
      have hbb := hz
      obtain ⟨z0, z1, z2, z3, z4, z5, zf0, zf1, zf2, zf3, zf4, zf5⟩ := hbb
      have hL := hk9
      go_wp2_with (first
        | (with_reducible refine Since.and_ ?_ ?_; (focus (repeat (first | (with_reducible exact Since.refl _) | assumption | (with_reducible refine Since.drewR ?_) | (with_reducible refine Since.alloc ?_ _) | ((with_reducible apply Since.below); rotate_left; (focus assumption))))); intro hS) | ((with_reducible refine wpT_q0 ?_ ?_ ?_ ?_); (focus rfl); (focus rfl); (focus rfl); intro K hK) | ((with_reducible apply wpT_l); (focus rfl); (focus rfl); (focus rfl); (focus rfl); (focus (first | exact Since.drew _ | assumption)); (focus (simp <;> omega)); (focus go_simp); intro K hK) | ((with_reducible apply wpT_lw); (focus exact wanted_yes _ _ _ rfl rfl rfl); (focus rfl); (focus rfl); (focus rfl); (focus (first | exact Since.drew _ | assumption)); (focus (simp <;> omega)); (focus go_simp); intro K hK) | ((with_reducible refine wpT_xs0 ?_ ?_ ?_); (focus rfl); (focus rfl); intro K hK) | ((with_reducible refine wpT_noL ?_ ?_); (focus (first | exact wanted_no _ _ _ rfl rfl rfl | exact wanted_un _ _ _ rfl rfl rfl)); simp only [setO, List.set_cons_succ, List.set_cons_zero]) | ((with_reducible refine wpT_q1 ?_ ?_ ?_ ?_); (focus exact wanted_yes _ _ _ rfl rfl rfl); (focus rfl); (focus rfl); intro K hK) | ((with_reducible refine wpT_xs1 ?_ ?_ ?_); (focus exact wanted_yes _ _ _ rfl rfl rfl); (focus rfl); intro K hK) | ((with_reducible refine wpT_nil ?_); try dsimp only)
        | fail)
      refine (PlayerOk_c r A2 xs.length c2 _ _ xs w9 rfl (by omega) hcap.1 hcap.2 (op.slAt encReply_len).2.2 (Nat.le_refl _)).mono ?_
      rintro e w10 ⟨he, hk10⟩
      rw [hk.out] at he
      subst he
      have hx := hx.below hk10
      have ht := ht.below hk10
      have hy := hy.below hk10
      have hz := hz.below hk10
      have op := op.below hk10 (Nat.le_refl _)
      have oq := oq.below hk10 (Nat.le_refl _)
      have ou := ou.below hk10 (Nat.le_refl _)
      have hB := hB.trans (hk10.mono hB.size)
      have hbb := hx
      obtain ⟨x0, x1, x2, x3, x4, x5, xf0, xf1, xf2, xf3, xf4, xf5⟩ := hbb
      have hbb := ht
      obtain ⟨t0, t1, t2, t3, tf0, tf1, tf2, tf3⟩ := hbb
      have hbb := hy
      obtain ⟨y0, y1, y2, y3, y4, y5, yf0, yf1, yf2, yf3, yf4, yf5⟩ := hbb
      have hbb := hz
      obtain ⟨z0, z1, z2, z3, z4, z5, zf0, zf1, zf2, zf3, zf4, zf5⟩ := hbb
      have hL := hk10
      go_wp2_with (first
        | (with_reducible refine Since.and_ ?_ ?_; (focus (repeat (first | (with_reducible exact Since.refl _) | assumption | (with_reducible refine Since.drewR ?_) | (with_reducible refine Since.alloc ?_ _) | ((with_reducible apply Since.below); rotate_left; (focus assumption))))); intro hS) | ((with_reducible refine wpT_q0 ?_ ?_ ?_ ?_); (focus rfl); (focus rfl); (focus rfl); intro K hK) | ((with_reducible apply wpT_l); (focus rfl); (focus rfl); (focus rfl); (focus rfl); (focus (first | exact Since.drew _ | assumption)); (focus (simp <;> omega)); (focus go_simp); intro K hK) | ((with_reducible apply wpT_lw); (focus exact wanted_yes _ _ _ rfl rfl rfl); (focus rfl); (focus rfl); (focus rfl); (focus (first | exact Since.drew _ | assumption)); (focus (simp <;> omega)); (focus go_simp); intro K hK) | ((with_reducible refine wpT_xs0 ?_ ?_ ?_); (focus rfl); (focus rfl); intro K hK) | ((with_reducible refine wpT_noL ?_ ?_); (focus (first | exact wanted_no _ _ _ rfl rfl rfl | exact wanted_un _ _ _ rfl rfl rfl)); simp only [setO, List.set_cons_succ, List.set_cons_zero]) | ((with_reducible refine wpT_q1 ?_ ?_ ?_ ?_); (focus exact wanted_yes _ _ _ rfl rfl rfl); (focus rfl); (focus rfl); intro K hK) | ((with_reducible refine wpT_xs1 ?_ ?_ ?_); (focus exact wanted_yes _ _ _ rfl rfl rfl); (focus rfl); intro K hK) | ((with_reducible refine wpT_nil ?_); try dsimp only)
        | fail)
      refine (PlayerHear_c r A3 (xs.length + 1) c3 _ _ (xs ++ [t]) t w10 (by simp) (by omega) hcapx.1 hcapx.2 (oq.slAt encReply_len).2.2 (Nat.le_refl _)).mono ?_
      rintro e w11 ⟨r5, A5, n5, c5, b5, rfl, og, hn5, hr5, hb5, hk11⟩
      rw [hh2.out] at og hn5 hr5 hb5
      dsimp only at og hn5 hr5 hb5
      obtain rfl : n5 = (xs.length + 1) := by rw [hn5]; simp
      clear hn5
      subst r5
      subst b5
      have hx := hx.below hk11
      have ht := ht.below hk11
      have hy := hy.below hk11
      have hz := hz.below hk11
      have op := op.below hk11 (Nat.le_refl _)
      have oq := oq.below hk11 (Nat.le_refl _)
      have ou := ou.below hk11 (Nat.le_refl _)
      have hB := hB.trans (hk11.mono hB.size)
      have hA := (Below.refl w11.heap.size w11).alloc (Nat.le_refl _) (.cells #[.int .i64 r.1, .int .i64 r.2.1, .int .i64 r.2.2.1, .int .i64 r.2.2.2.1, .int .i64 r.2.2.2.2, .slice A5 (xs.length + 1) c5] 32)
      have hB := hB.trans (hA.mono hB.size)
      have hx := hx.below hA
      have ht := ht.below hA
      have hy := hy.below hA
      have hz := hz.below hA
      have op := op.below hA (Nat.le_refl _)
      have oq := oq.below hA (Nat.le_refl _)
      have ou := ou.below hA (Nat.le_refl _)
      have og := og.below hA (Nat.le_refl _)
      have hbb := hx
      obtain ⟨x0, x1, x2, x3, x4, x5, xf0, xf1, xf2, xf3, xf4, xf5⟩ := hbb
      have hbb := ht
      obtain ⟨t0, t1, t2, t3, tf0, tf1, tf2, tf3⟩ := hbb
      have hbb := hy
      obtain ⟨y0, y1, y2, y3, y4, y5, yf0, yf1, yf2, yf3, yf4, yf5⟩ := hbb
      have hbb := hz
      obtain ⟨z0, z1, z2, z3, z4, z5, zf0, zf1, zf2, zf3, zf4, zf5⟩ := hbb
      go_wp2_with fail
      clear hA
      generalize w11.alloc (.cells #[.int .i64 r.1, .int .i64 r.2.1, .int .i64 r.2.2.1, .int .i64 r.2.2.2.1, .int .i64 r.2.2.2.2, .slice A5 (xs.length + 1) c5] 32) = w12 at *
      refine (PlayerSure_c r A2 xs.length c2 _ _ xs w12 rfl (by omega) hcap.1 hcap.2 (op.slAt encReply_len).2.2 (Nat.le_refl _)).mono ?_
      rintro e w13 ⟨rfl, hk13⟩
      have hx := hx.below hk13
      have ht := ht.below hk13
      have hy := hy.below hk13
      have hz := hz.below hk13
      have op := op.below hk13 (Nat.le_refl _)
      have oq := oq.below hk13 (Nat.le_refl _)
      have hB := hB.trans (hk13.mono hB.size)
      have hA := (Below.refl w13.heap.size w13).alloc (Nat.le_refl _) (.cells #[.int .i64 (sureL r xs).1.1, .int .i64 (sureL r xs).1.2.1, .int .i64 (sureL r xs).1.2.2.1, .int .i64 (sureL r xs).1.2.2.2] 37)
      have hB := hB.trans (hA.mono hB.size)
      have hx := hx.below hA
      have ht := ht.below hA
      have hy := hy.below hA
      have hz := hz.below hA
      have op := op.below hA (Nat.le_refl _)
      have oq := oq.below hA (Nat.le_refl _)
      have hs := Box4.made w13 (sureL r xs).1.1 (sureL r xs).1.2.1 (sureL r xs).1.2.2.1 (sureL r xs).1.2.2.2 37
      have hbb := hx
      obtain ⟨x0, x1, x2, x3, x4, x5, xf0, xf1, xf2, xf3, xf4, xf5⟩ := hbb
      have hbb := ht
      obtain ⟨t0, t1, t2, t3, tf0, tf1, tf2, tf3⟩ := hbb
      have hbb := hy
      obtain ⟨y0, y1, y2, y3, y4, y5, yf0, yf1, yf2, yf3, yf4, yf5⟩ := hbb
      have hbb := hz
      obtain ⟨z0, z1, z2, z3, z4, z5, zf0, zf1, zf2, zf3, zf4, zf5⟩ := hbb
      have hbb := hs
      obtain ⟨s0, s1, s2, s3, sf0, sf1, sf2, sf3⟩ := hbb
      go_wp2_with fail
      clear hA
      generalize w13.alloc (.cells #[.int .i64 (sureL r xs).1.1, .int .i64 (sureL r xs).1.2.1, .int .i64 (sureL r xs).1.2.2.1, .int .i64 (sureL r xs).1.2.2.2] 37) = w14 at *
      have hlq : xs.length < (xs ++ [t]).length := by simp
      obtain ⟨b, off, rfl, _, _⟩ := (oq.slAt encReply_len).2.2.addr hlq
      have hkk := of_decide_eq_true hk.out
      cases e5 : (sureL r xs).2
      · clear e5 hkk
        refine (PlayerSure_c r (some ⟨b, off, none⟩) (xs.length + 1) c3 _ _ (xs ++ [t]) w14 (by simp) (by omega) hcapx.1 hcapx.2 (oq.slAt encReply_len).2.2 (Nat.le_refl _)).mono ?_
        rintro e w15 ⟨he, hk15⟩
        subst he
        have hx := hx.below hk15
        have ht := ht.below hk15
        have hy := hy.below hk15
        have hz := hz.below hk15
        have hs := hs.below hk15
        have op := op.below hk15 (Nat.le_refl _)
        have oq := oq.below hk15 (Nat.le_refl _)
        have hB := hB.trans (hk15.mono hB.size)
        have hA := (Below.refl w15.heap.size w15).alloc (Nat.le_refl _) (.cells #[.int .i64 (sureL r (xs ++ [t])).1.1, .int .i64 (sureL r (xs ++ [t])).1.2.1, .int .i64 (sureL r (xs ++ [t])).1.2.2.1, .int .i64 (sureL r (xs ++ [t])).1.2.2.2] 37)
        have hB := hB.trans (hA.mono hB.size)
        have hx := hx.below hA
        have ht := ht.below hA
        have hy := hy.below hA
        have hz := hz.below hA
        have hs := hs.below hA
        have op := op.below hA (Nat.le_refl _)
        have oq := oq.below hA (Nat.le_refl _)
        have hv := Box4.made w15 (sureL r (xs ++ [t])).1.1 (sureL r (xs ++ [t])).1.2.1 (sureL r (xs ++ [t])).1.2.2.1 (sureL r (xs ++ [t])).1.2.2.2 37
        have hbb := hx
        obtain ⟨x0, x1, x2, x3, x4, x5, xf0, xf1, xf2, xf3, xf4, xf5⟩ := hbb
        have hbb := ht
        obtain ⟨t0, t1, t2, t3, tf0, tf1, tf2, tf3⟩ := hbb
        have hbb := hy
        obtain ⟨y0, y1, y2, y3, y4, y5, yf0, yf1, yf2, yf3, yf4, yf5⟩ := hbb
        have hbb := hz
        obtain ⟨z0, z1, z2, z3, z4, z5, zf0, zf1, zf2, zf3, zf4, zf5⟩ := hbb
        have hbb := hs
        obtain ⟨s0, s1, s2, s3, sf0, sf1, sf2, sf3⟩ := hbb
        have hbb := hv
        obtain ⟨v0, v1, v2, v3, vf0, vf1, vf2, vf3⟩ := hbb
        go_wp2_with fail
        clear hA
        generalize w15.alloc (.cells #[.int .i64 (sureL r (xs ++ [t])).1.1, .int .i64 (sureL r (xs ++ [t])).1.2.1, .int .i64 (sureL r (xs ++ [t])).1.2.2.1, .int .i64 (sureL r (xs ++ [t])).1.2.2.2] 37) = w16 at *
        have hlx := hx.lt
        have hly := hy.lt
        refine wp_region_T (fun _ => True) [] [] [] [0, 1, 2, 3, 4, 5, 6, 7, 8, 9, 10, 11, 12, 13, 14, 15, 16, 17, 18, 19, 20, 21, 22, 23, 24, 25, 26, 27, 28, 29, 30, 31, 32, 33, 34, 35, 36] (by kernel_rfl) (by kernel_rfl) (by kernel_rfl) trivial ?_; simp only [pickL, List.getElem?_cons_succ, List.getElem?_cons_zero]
        go_wp2_with (first
          | ((with_reducible refine wpT_q0 ?_ ?_ ?_ ?_); (focus rfl); (focus rfl); (focus rfl); intro K hK) | ((with_reducible refine wpT_x0 ?_ ?_ ?_); (focus rfl); (focus rfl); intro K hK) | ((with_reducible refine wpT_noL ?_ ?_); (focus (first | exact wanted_no _ _ _ rfl rfl rfl | exact wanted_un _ _ _ rfl rfl rfl)); simp only [setO, List.set_cons_succ, List.set_cons_zero]) | ((with_reducible refine wpT_q1 ?_ ?_ ?_ ?_); (focus exact wanted_yes _ _ _ rfl rfl rfl); (focus rfl); (focus rfl); intro K hK) | ((with_reducible refine wpT_x1 ?_ ?_ ?_); (focus exact wanted_yes _ _ _ rfl rfl rfl); (focus rfl); intro K hK) | ((with_reducible refine wpT_nil ?_); try dsimp only)
          | fail)
        have hB := hB.drew
        have hx : Box6 w16.drew _ _ _ _ _ _ _  := hx
        have ht : Box4 w16.drew _ _ _ _ _  := ht
        have hy : Box6 w16.drew _ _ _ _ _ _ _  := hy
        have hz : Box6 w16.drew _ _ _ _ _ _ _  := hz
        have hs : Box4 w16.drew _ _ _ _ _  := hs
        have hv : Box4 w16.drew _ _ _ _ _  := hv
        have op := op.drew
        have oq := oq.drew
        refine (PlayerOk_c r (some ⟨b, off, none⟩) (xs.length + 1) c3 _ _ (xs ++ [t]) w16.drew (by simp) (by omega) hcapx.1 hcapx.2 (oq.slAt encReply_len).2.2 (Nat.le_refl _)).mono ?_
        rintro e w17 ⟨he, hk17⟩
        rw [decide_eq_true hko] at he
        subst he
        have hx := hx.below hk17
        have ht := ht.below hk17
        have hy := hy.below hk17
        have hz := hz.below hk17
        have hs := hs.below hk17
        have hv := hv.below hk17
        have op := op.below hk17 (Nat.le_refl _)
        have oq := oq.below hk17 (Nat.le_refl _)
        have hB := hB.trans (hk17.mono hB.size)
        have hbb := hx
        obtain ⟨x0, x1, x2, x3, x4, x5, xf0, xf1, xf2, xf3, xf4, xf5⟩ := hbb
        have hbb := ht
        obtain ⟨t0, t1, t2, t3, tf0, tf1, tf2, tf3⟩ := hbb
        have hbb := hy
        obtain ⟨y0, y1, y2, y3, y4, y5, yf0, yf1, yf2, yf3, yf4, yf5⟩ := hbb
        have hbb := hz
        obtain ⟨z0, z1, z2, z3, z4, z5, zf0, zf1, zf2, zf3, zf4, zf5⟩ := hbb
        have hbb := hs
        obtain ⟨s0, s1, s2, s3, sf0, sf1, sf2, sf3⟩ := hbb
        have hbb := hv
        obtain ⟨v0, v1, v2, v3, vf0, vf1, vf2, vf3⟩ := hbb
        have hrt := (oq.slAt encReply_len).2.2.getReply hlq
        rw [show (xs ++ [t])[xs.length] = t by simp] at hrt
        obtain ⟨k1, k2, k3, k4⟩ := hrt
        clear hlq
        have hL := hk17
        go_wp2_with (first
          | ((with_reducible refine wpT_q0 ?_ ?_ ?_ ?_); (focus rfl); (focus rfl); (focus rfl); intro K hK) | ((with_reducible refine wpT_x0 ?_ ?_ ?_); (focus rfl); (focus rfl); intro K hK) | ((with_reducible refine wpT_noL ?_ ?_); (focus (first | exact wanted_no _ _ _ rfl rfl rfl | exact wanted_un _ _ _ rfl rfl rfl)); simp only [setO, List.set_cons_succ, List.set_cons_zero]) | ((with_reducible refine wpT_q1 ?_ ?_ ?_ ?_); (focus exact wanted_yes _ _ _ rfl rfl rfl); (focus rfl); (focus rfl); intro K hK) | ((with_reducible refine wpT_x1 ?_ ?_ ?_); (focus exact wanted_yes _ _ _ rfl rfl rfl); (focus rfl); intro K hK) | ((with_reducible refine wpT_nil ?_); try dsimp only)
          | fail)
        go_ret
        exact ⟨rfl, hB⟩
      · have h6 := hide (sure_keep hkk hko e5)
        by_cases hl2 : xs.length ≤ 2
        · have h7 := hide (sure_same hkk hko e5 hl2)
          have h8 := hide e5
          clear e5 hkk
          have d7 : decide (3 < ((xs.length : Int) + 1)) = false := by simp; omega
          refine (PlayerSure_c r (some ⟨b, off, none⟩) (xs.length + 1) c3 _ _ (xs ++ [t]) w14 (by simp) (by omega) hcapx.1 hcapx.2 (oq.slAt encReply_len).2.2 (Nat.le_refl _)).mono ?_
          rintro e w15 ⟨he, hk15⟩
          rw [h7.out, h8.out] at he
          subst he
          have hx := hx.below hk15
          have ht := ht.below hk15
          have hy := hy.below hk15
          have hz := hz.below hk15
          have hs := hs.below hk15
          have op := op.below hk15 (Nat.le_refl _)
          have oq := oq.below hk15 (Nat.le_refl _)
          have hB := hB.trans (hk15.mono hB.size)
          have hA := (Below.refl w15.heap.size w15).alloc (Nat.le_refl _) (.cells #[.int .i64 (sureL r xs).1.1, .int .i64 (sureL r xs).1.2.1, .int .i64 (sureL r xs).1.2.2.1, .int .i64 (sureL r xs).1.2.2.2] 37)
          have hB := hB.trans (hA.mono hB.size)
          have hx := hx.below hA
          have ht := ht.below hA
          have hy := hy.below hA
          have hz := hz.below hA
          have hs := hs.below hA
          have op := op.below hA (Nat.le_refl _)
          have oq := oq.below hA (Nat.le_refl _)
          have hv := Box4.made w15 (sureL r xs).1.1 (sureL r xs).1.2.1 (sureL r xs).1.2.2.1 (sureL r xs).1.2.2.2 37
          have hbb := hx
          obtain ⟨x0, x1, x2, x3, x4, x5, xf0, xf1, xf2, xf3, xf4, xf5⟩ := hbb
          have hbb := ht
          obtain ⟨t0, t1, t2, t3, tf0, tf1, tf2, tf3⟩ := hbb
          have hbb := hy
          obtain ⟨y0, y1, y2, y3, y4, y5, yf0, yf1, yf2, yf3, yf4, yf5⟩ := hbb
          have hbb := hz
          obtain ⟨z0, z1, z2, z3, z4, z5, zf0, zf1, zf2, zf3, zf4, zf5⟩ := hbb
          have hbb := hs
          obtain ⟨s0, s1, s2, s3, sf0, sf1, sf2, sf3⟩ := hbb
          have hbb := hv
          obtain ⟨v0, v1, v2, v3, vf0, vf1, vf2, vf3⟩ := hbb
          go_wp2_with fail
          clear hA
          generalize w15.alloc (.cells #[.int .i64 (sureL r xs).1.1, .int .i64 (sureL r xs).1.2.1, .int .i64 (sureL r xs).1.2.2.1, .int .i64 (sureL r xs).1.2.2.2] 37) = w16 at *
          have hlx := hx.lt
          have hly := hy.lt
          refine wp_region_T (fun _ => True) [] [] [] [0, 1, 2, 3, 4, 5, 6, 7, 8, 9, 10, 11, 12, 13, 14, 15, 16, 17, 18, 19, 20, 21, 22, 23, 24, 25, 26, 27, 28, 29, 30, 31, 32, 33, 34, 35, 36] (by kernel_rfl) (by kernel_rfl) (by kernel_rfl) trivial ?_; simp only [pickL, List.getElem?_cons_succ, List.getElem?_cons_zero]
          go_wp2_with (first
            | ((with_reducible refine wpT_q0 ?_ ?_ ?_ ?_); (focus rfl); (focus rfl); (focus rfl); intro K hK) | ((with_reducible refine wpT_x0 ?_ ?_ ?_); (focus rfl); (focus rfl); intro K hK) | ((with_reducible refine wpT_noL ?_ ?_); (focus (first | exact wanted_no _ _ _ rfl rfl rfl | exact wanted_un _ _ _ rfl rfl rfl)); simp only [setO, List.set_cons_succ, List.set_cons_zero]) | ((with_reducible refine wpT_q1 ?_ ?_ ?_ ?_); (focus exact wanted_yes _ _ _ rfl rfl rfl); (focus rfl); (focus rfl); intro K hK) | ((with_reducible refine wpT_x1 ?_ ?_ ?_); (focus exact wanted_yes _ _ _ rfl rfl rfl); (focus rfl); intro K hK) | ((with_reducible refine wpT_nil ?_); try dsimp only)
            | fail)
          have hB := hB.drew
          have hx : Box6 w16.drew _ _ _ _ _ _ _  := hx
          have ht : Box4 w16.drew _ _ _ _ _  := ht
          have hy : Box6 w16.drew _ _ _ _ _ _ _  := hy
          have hz : Box6 w16.drew _ _ _ _ _ _ _  := hz
          have hs : Box4 w16.drew _ _ _ _ _  := hs
          have hv : Box4 w16.drew _ _ _ _ _  := hv
          have op := op.drew
          have oq := oq.drew
          refine (PlayerOk_c r (some ⟨b, off, none⟩) (xs.length + 1) c3 _ _ (xs ++ [t]) w16.drew (by simp) (by omega) hcapx.1 hcapx.2 (oq.slAt encReply_len).2.2 (Nat.le_refl _)).mono ?_
          rintro e w17 ⟨he, hk17⟩
          rw [decide_eq_true hko] at he
          subst he
          have hx := hx.below hk17
          have ht := ht.below hk17
          have hy := hy.below hk17
          have hz := hz.below hk17
          have hs := hs.below hk17
          have hv := hv.below hk17
          have op := op.below hk17 (Nat.le_refl _)
          have oq := oq.below hk17 (Nat.le_refl _)
          have hB := hB.trans (hk17.mono hB.size)
          have hbb := hx
          obtain ⟨x0, x1, x2, x3, x4, x5, xf0, xf1, xf2, xf3, xf4, xf5⟩ := hbb
          have hbb := ht
          obtain ⟨t0, t1, t2, t3, tf0, tf1, tf2, tf3⟩ := hbb
          have hbb := hy
          obtain ⟨y0, y1, y2, y3, y4, y5, yf0, yf1, yf2, yf3, yf4, yf5⟩ := hbb
          have hbb := hz
          obtain ⟨z0, z1, z2, z3, z4, z5, zf0, zf1, zf2, zf3, zf4, zf5⟩ := hbb
          have hbb := hs
          obtain ⟨s0, s1, s2, s3, sf0, sf1, sf2, sf3⟩ := hbb
          have hbb := hv
          obtain ⟨v0, v1, v2, v3, vf0, vf1, vf2, vf3⟩ := hbb
          have hrt := (oq.slAt encReply_len).2.2.getReply hlq
          rw [show (xs ++ [t])[xs.length] = t by simp] at hrt
          obtain ⟨k1, k2, k3, k4⟩ := hrt
          clear hlq
          have hL := hk17
          go_wp2_with (first
            | ((with_reducible refine wpT_q0 ?_ ?_ ?_ ?_); (focus rfl); (focus rfl); (focus rfl); intro K hK) | ((with_reducible refine wpT_x0 ?_ ?_ ?_); (focus rfl); (focus rfl); intro K hK) | ((with_reducible refine wpT_noL ?_ ?_); (focus (first | exact wanted_no _ _ _ rfl rfl rfl | exact wanted_un _ _ _ rfl rfl rfl)); simp only [setO, List.set_cons_succ, List.set_cons_zero]) | ((with_reducible refine wpT_q1 ?_ ?_ ?_ ?_); (focus exact wanted_yes _ _ _ rfl rfl rfl); (focus rfl); (focus rfl); intro K hK) | ((with_reducible refine wpT_x1 ?_ ?_ ?_); (focus exact wanted_yes _ _ _ rfl rfl rfl); (focus rfl); intro K hK) | ((with_reducible refine wpT_nil ?_); try dsimp only)
            | fail)
          go_ret
          exact ⟨rfl, hB⟩
        · clear e5 hkk
          have d7 : decide (3 < ((xs.length : Int) + 1)) = true := by simp; omega
          refine (PlayerSure_c r (some ⟨b, off, none⟩) (xs.length + 1) c3 _ _ (xs ++ [t]) w14 (by simp) (by omega) hcapx.1 hcapx.2 (oq.slAt encReply_len).2.2 (Nat.le_refl _)).mono ?_
          rintro e w15 ⟨he, hk15⟩
          rw [h6.out] at he
          subst he
          have hx := hx.below hk15
          have ht := ht.below hk15
          have hy := hy.below hk15
          have hz := hz.below hk15
          have hs := hs.below hk15
          have op := op.below hk15 (Nat.le_refl _)
          have oq := oq.below hk15 (Nat.le_refl _)
          have hB := hB.trans (hk15.mono hB.size)
          have hA := (Below.refl w15.heap.size w15).alloc (Nat.le_refl _) (.cells #[.int .i64 (sureL r (xs ++ [t])).1.1, .int .i64 (sureL r (xs ++ [t])).1.2.1, .int .i64 (sureL r (xs ++ [t])).1.2.2.1, .int .i64 (sureL r (xs ++ [t])).1.2.2.2] 37)
          have hB := hB.trans (hA.mono hB.size)
          have hx := hx.below hA
          have ht := ht.below hA
          have hy := hy.below hA
          have hz := hz.below hA
          have hs := hs.below hA
          have op := op.below hA (Nat.le_refl _)
          have oq := oq.below hA (Nat.le_refl _)
          have hv := Box4.made w15 (sureL r (xs ++ [t])).1.1 (sureL r (xs ++ [t])).1.2.1 (sureL r (xs ++ [t])).1.2.2.1 (sureL r (xs ++ [t])).1.2.2.2 37
          have hbb := hx
          obtain ⟨x0, x1, x2, x3, x4, x5, xf0, xf1, xf2, xf3, xf4, xf5⟩ := hbb
          have hbb := ht
          obtain ⟨t0, t1, t2, t3, tf0, tf1, tf2, tf3⟩ := hbb
          have hbb := hy
          obtain ⟨y0, y1, y2, y3, y4, y5, yf0, yf1, yf2, yf3, yf4, yf5⟩ := hbb
          have hbb := hz
          obtain ⟨z0, z1, z2, z3, z4, z5, zf0, zf1, zf2, zf3, zf4, zf5⟩ := hbb
          have hbb := hs
          obtain ⟨s0, s1, s2, s3, sf0, sf1, sf2, sf3⟩ := hbb
          have hbb := hv
          obtain ⟨v0, v1, v2, v3, vf0, vf1, vf2, vf3⟩ := hbb
          go_wp2_with fail
          clear hA
          generalize w15.alloc (.cells #[.int .i64 (sureL r (xs ++ [t])).1.1, .int .i64 (sureL r (xs ++ [t])).1.2.1, .int .i64 (sureL r (xs ++ [t])).1.2.2.1, .int .i64 (sureL r (xs ++ [t])).1.2.2.2] 37) = w16 at *
          have hlx := hx.lt
          have hly := hy.lt
          refine wp_region_T (fun _ => True) [] [] [] [0, 1, 2, 3, 4, 5, 6, 7, 8, 9, 10, 11, 12, 13, 14, 15, 16, 17, 18, 19, 20, 21, 22, 23, 24, 25, 26, 27, 28, 29, 30, 31, 32, 33, 34, 35, 36] (by kernel_rfl) (by kernel_rfl) (by kernel_rfl) trivial ?_; simp only [pickL, List.getElem?_cons_succ, List.getElem?_cons_zero]
          go_wp2_with (first
            | ((with_reducible refine wpT_q0 ?_ ?_ ?_ ?_); (focus rfl); (focus rfl); (focus rfl); intro K hK) | ((with_reducible refine wpT_x0 ?_ ?_ ?_); (focus rfl); (focus rfl); intro K hK) | ((with_reducible refine wpT_noL ?_ ?_); (focus (first | exact wanted_no _ _ _ rfl rfl rfl | exact wanted_un _ _ _ rfl rfl rfl)); simp only [setO, List.set_cons_succ, List.set_cons_zero]) | ((with_reducible refine wpT_q1 ?_ ?_ ?_ ?_); (focus exact wanted_yes _ _ _ rfl rfl rfl); (focus rfl); (focus rfl); intro K hK) | ((with_reducible refine wpT_x1 ?_ ?_ ?_); (focus exact wanted_yes _ _ _ rfl rfl rfl); (focus rfl); intro K hK) | ((with_reducible refine wpT_nil ?_); try dsimp only)
            | fail)
          have hB := hB.drew
          have hx : Box6 w16.drew _ _ _ _ _ _ _  := hx
          have ht : Box4 w16.drew _ _ _ _ _  := ht
          have hy : Box6 w16.drew _ _ _ _ _ _ _  := hy
          have hz : Box6 w16.drew _ _ _ _ _ _ _  := hz
          have hs : Box4 w16.drew _ _ _ _ _  := hs
          have hv : Box4 w16.drew _ _ _ _ _  := hv
          have op := op.drew
          have oq := oq.drew
          refine (PlayerOk_c r (some ⟨b, off, none⟩) (xs.length + 1) c3 _ _ (xs ++ [t]) w16.drew (by simp) (by omega) hcapx.1 hcapx.2 (oq.slAt encReply_len).2.2 (Nat.le_refl _)).mono ?_
          rintro e w17 ⟨he, hk17⟩
          rw [decide_eq_true hko] at he
          subst he
          have hx := hx.below hk17
          have ht := ht.below hk17
          have hy := hy.below hk17
          have hz := hz.below hk17
          have hs := hs.below hk17
          have hv := hv.below hk17
          have op := op.below hk17 (Nat.le_refl _)
          have oq := oq.below hk17 (Nat.le_refl _)
          have hB := hB.trans (hk17.mono hB.size)
          have hbb := hx
          obtain ⟨x0, x1, x2, x3, x4, x5, xf0, xf1, xf2, xf3, xf4, xf5⟩ := hbb
          have hbb := ht
          obtain ⟨t0, t1, t2, t3, tf0, tf1, tf2, tf3⟩ := hbb
          have hbb := hy
          obtain ⟨y0, y1, y2, y3, y4, y5, yf0, yf1, yf2, yf3, yf4, yf5⟩ := hbb
          have hbb := hz
          obtain ⟨z0, z1, z2, z3, z4, z5, zf0, zf1, zf2, zf3, zf4, zf5⟩ := hbb
          have hbb := hs
          obtain ⟨s0, s1, s2, s3, sf0, sf1, sf2, sf3⟩ := hbb
          have hbb := hv
          obtain ⟨v0, v1, v2, v3, vf0, vf1, vf2, vf3⟩ := hbb
          have hrt := (oq.slAt encReply_len).2.2.getReply hlq
          rw [show (xs ++ [t])[xs.length] = t by simp] at hrt
          obtain ⟨k1, k2, k3, k4⟩ := hrt
          clear hlq
          have hL := hk17
          go_wp2_with (first
            | ((with_reducible refine wpT_q0 ?_ ?_ ?_ ?_); (focus rfl); (focus rfl); (focus rfl); intro K hK) | ((with_reducible refine wpT_x0 ?_ ?_ ?_); (focus rfl); (focus rfl); intro K hK) | ((with_reducible refine wpT_noL ?_ ?_); (focus (first | exact wanted_no _ _ _ rfl rfl rfl | exact wanted_un _ _ _ rfl rfl rfl)); simp only [setO, List.set_cons_succ, List.set_cons_zero]) | ((with_reducible refine wpT_q1 ?_ ?_ ?_ ?_); (focus exact wanted_yes _ _ _ rfl rfl rfl); (focus rfl); (focus rfl); intro K hK) | ((with_reducible refine wpT_x1 ?_ ?_ ?_); (focus exact wanted_yes _ _ _ rfl rfl rfl); (focus rfl); intro K hK) | ((with_reducible refine wpT_nil ?_); try dsimp only)
            | fail)
          go_ret
          exact ⟨rfl, hB⟩

/-! ### The row of 'laws.FnPlayerHear' -/
namespace FnPlayerHear
open Go.ChangeShapes Go.WideShapes Go.ChangeAt Go.RowKit
open Go.ChangeMaps (open_string shut_string)
theorem own : ownKnob Try.prog.godebug = none := by kernel_rfl
theorem laidOut : laidOutB Try.prog = true := by kernel_rfl

set_option maxRecDepth 100000 in
theorem lifted (os : Os) (started : os.Started) (H : Type) (enc : TypeId × Value → H) :
    ReturnsInHanded {} Try.checked os 6 .any (Rows.fnPlayerHearSpec.pre6 enc Try.prog Try.f6 Rows.fnPlayerHearRow.domain false) (Rows.fnPlayerHearSpec.post enc Try.prog Try.f6 false true false false) := by
  refine returnsInHanded_of_change (C := Try.checked) own started (by kernel_rfl) Try.func6
    (ChangeSpec.witness6 (enc := enc) (C := Try.checked) false ⟨#[], #[.slice none 0 0], []⟩ 8 (by kernel_rfl) (by kernel_rfl) (by kernel_rfl) (by kernel_rfl)) ?_
  intro W base args ds gs before hval0 hW hcnd _
  have hval : ∀ (j : Nat) t v, Try.f6.params[j]? = some t → args[j]? = some v → Value.okWide Try.prog W .any base t v := hval0
  have hW' := hW
  obtain ⟨p, q, hA0, hV, rfl, hfz, hnd⟩ := hW
  have hA : DataW.TrodAll enc Try.prog W 0 (fun _ => true) true Try.f6.params.toList args.toList ds p := hA0
  rw [Try.params6] at hA hval
  obtain ⟨v0, vs0, d0, ds0, p0, q0, hargs, rfl, rfl, h0, r0⟩ := trodAll_cons hA
  obtain ⟨rfl, rfl, rfl⟩ := trodAll_nil r0
  obtain rfl : args = #[v0] := by cases args; simp_all
  obtain ⟨rfl, rfl⟩ := trodVars_none hV
  have k0 := h0
  have lt0 : ∀ x ∈ p0, x.block < W.heap.size := by obtain ⟨m, hm⟩ := k0; exact DataW.trod_lt m _ _ _ hm
  obtain ⟨A0, len0, cap0, z0, rfl, hl0, hc0, hm0, w0, g0⟩ : ∃ A len cap, ∃ xs : List Int, v0 = .slice A len cap ∧ len = xs.length ∧ len ≤ cap ∧ cap ≤ maxLen ∧ Sl encU 1 W 0 W.heap.size A xs ∧ ∀ x ∈ xs, (fun b => 0 ≤ b ∧ b < 256) x := by
    obtain ⟨fuel, hf⟩ := h0
    obtain ⟨a0, len0, cap0, rfl⟩ := okWide_slice Try.underlying41 (hval 0 41 v0 rfl rfl)
    simp only [Value.cells] at hf
    exact trod_sl (encA := encU) (sz := 1) (Good := fun b => 0 ≤ b ∧ b < 256) Try.underlying41 (by kernel_rfl) (by omega) encU_len hf (fun n cs y hy => (by obtain ⟨k, h1, _, h2⟩ := DataW.trod_int Try.underlying5 hy; exact ⟨k, h1, u8_wf h2⟩))
  clear hA0 hval0
  refine (lawPlayerHearD A0 len0 cap0 z0 W hl0 hc0 hm0 w0 g0).mono fun e W' ⟨he, bel⟩ => ?_
  subst he
  exact ⟨_, rfl, _, _, _, [], _, [], hW', trodAll_mk1 (shut_bool Try.underlying4 _), (trodAll_cons_mk (Below.trod laidOut (by kernel_rfl) (of_decide_eq_true (by kernel_rfl)) k0 bel lt0) trodAll_mk0), rfl, bel.frame _, fun h => by cases h⟩

theorem over : Rows.fnPlayerHearRow.holds Try.pinned (OpenSpec.ofChange Rows.fnPlayerHearSpec) :=
  OpenClaim.holds_of_wide 6 Try.f6 rfl rfl rfl rfl rfl rfl rfl ⟨rfl, rfl, rfl, rfl, rfl⟩ rfl rfl rfl rfl rfl (by kernel_rfl) Try.func6 (by kernel_rfl)
    (of_decide_eq_true (by kernel_rfl)) (by unfold Func.isWrapper; first | (rw [if_pos (by decide +kernel)]; kernel_rfl) | (rw [if_neg (by decide +kernel)]; exact ⟨rfl, rfl⟩))
    (fun os started H enc _ => lifted os started H enc)

theorem proved : Rows.FnPlayerHearSaid := over
end FnPlayerHear
end Go.Proofs.Ytchofialljhojaa
