/-
  'FnPlayerAsk' returns true, for every code: who asks anew was sure, and has no answers.
  Conditions: none.
-/
import Derived.Test.YtchofialljhojaaGP
import Derived.Test.YtchofialljhojaaGO
namespace Go.Proofs.Ytchofialljhojaa
open Go.RowKit Rg
set_option linter.unusedVariables false
set_option linter.unusedSimpArgs false

theorem okPl_none {q : ReqV} (h : okR q = true) : okPl q [] := ⟨fun i hi => absurd hi (by simp), h⟩
theorem sure_none (q : ReqV) : sureL q [] = ((0, 0, 0, 0), false) := by
  unfold sureL
  split
  · rfl
  · rfl
theorem Own.set5 {α : Type} {enc : α → List Value} {sz lo : Nat} {e : TypeId} {v : Value} {xs : List α} {w : World} {b : Nat} (a0 a1 a2 a3 a4 : Value) (h : Own enc sz e w lo v xs) (hne : ∀ k, v.ownBlock = some k → k ≠ b) : Own enc sz e (((((w.setCell ⟨b, 0, none⟩ (a0)).setCell ⟨b, 1, none⟩ (a1)).setCell ⟨b, 2, none⟩ (a2)).setCell ⟨b, 3, none⟩ (a3)).setCell ⟨b, 4, none⟩ (a4)) lo v xs := h.keep fun k hk => set5_keep _ _ _ _ _ (hne k hk)
theorem ask_cases (r : ReqV) (xs : List ReplyT) (q : ReqV) : askL r xs q = ((r, xs), false) ∨ (askL r xs q = ((q, []), true) ∧ (sureL r xs).2 = true ∧ okR q = true ∧ r.2.1 < q.2.1) := by
  by_cases h : (sureL r xs).2 = true ∧ okR q = true ∧ q.1 = r.1 ∧ r.2.1 < q.2.1
  · exact .inr ⟨askL_yes h.1 h.2.1 h.2.2.1 h.2.2.2, h.1, h.2.1, h.2.2.2⟩
  · exact .inl (askL_no h)

set_option maxRecDepth 100000 in
set_option maxHeartbeats 8000000 in
theorem DrawPlayerAsk_c (A : Option Addr) (n c : Nat) (bs : List Int) (w : World) (hn : n = bs.length) (hc : n ≤ c) (hcm : c ≤ maxLen) (hs : Sl encU 1 w 0 w.heap.size A bs) (hb : ∀ b ∈ bs, 0 ≤ b ∧ b < 256) :
    Calls Try.prog 26 #[.slice A n c] w fun e w' => ∃ (r : ReqV) (A' : Option Addr) (n' c' : Nat) (xs : List ReplyT) (q : ReqV), e = .returned (.tuple #[.agg #[.int .i64 r.1, .int .i64 r.2.1, .int .i64 r.2.2.1, .int .i64 r.2.2.2.1, .int .i64 r.2.2.2.2, .slice A' n' c'], .agg #[.int .i64 q.1, .int .i64 q.2.1, .int .i64 q.2.2.1, .int .i64 q.2.2.2.1, .int .i64 q.2.2.2.2]]) ∧ n' = xs.length ∧ n' ≤ 10 ∧ Own encReply 4 37 w' w.heap.size (.slice A' n' c') xs ∧ Below w.heap.size w w' := by
  have hn' := hide hn
  have hb' := hide hb
  clear hn hb
  have hs1 : (w.alloc (.cells #[.int .i64 0, .int .i64 0, .int .i64 0, .int .i64 0, .int .i64 0, .slice none 0 0] 32)).heap.size = w.heap.size + 1 := by simp
  have hA1 : Below w.heap.size w (w.alloc (.cells #[.int .i64 0, .int .i64 0, .int .i64 0, .int .i64 0, .int .i64 0, .slice none 0 0] 32)) := (Below.refl _ _).alloc (Nat.le_refl _) _
  have hA2 : Below (w.alloc (.cells #[.int .i64 0, .int .i64 0, .int .i64 0, .int .i64 0, .int .i64 0, .slice none 0 0] 32)).heap.size (w.alloc (.cells #[.int .i64 0, .int .i64 0, .int .i64 0, .int .i64 0, .int .i64 0, .slice none 0 0] 32)) ((w.alloc (.cells #[.int .i64 0, .int .i64 0, .int .i64 0, .int .i64 0, .int .i64 0, .slice none 0 0] 32)).alloc (.cells #[.int .i64 0, .int .i64 0, .int .i64 0, .int .i64 0, .int .i64 0] 29)) := (Below.refl _ _).alloc (Nat.le_refl _) _
  have hb0 : Below w.heap.size w ((w.alloc (.cells #[.int .i64 0, .int .i64 0, .int .i64 0, .int .i64 0, .int .i64 0, .slice none 0 0] 32)).alloc (.cells #[.int .i64 0, .int .i64 0, .int .i64 0, .int .i64 0, .int .i64 0] 29)) := hA1.trans (hA2.mono (by omega))
  have hx0 := (Box6.made w 0 0 0 0 0 none 0 0 32).below hA2
  have hq0 := Box5.made (w.alloc (.cells #[.int .i64 0, .int .i64 0, .int .i64 0, .int .i64 0, .int .i64 0, .slice none 0 0] 32)) 0 0 0 0 0 29
  rw [hs1] at hq0
  have hs0 := hs.below hb0 (Nat.le_refl _)
  clear hA1 hA2 hs1
  go_enter Try.func26, Try.ntmps26
  go_wp2_with fail
  generalize (w.alloc (.cells #[.int .i64 0, .int .i64 0, .int .i64 0, .int .i64 0, .int .i64 0, .slice none 0 0] 32)).alloc (.cells #[.int .i64 0, .int .i64 0, .int .i64 0, .int .i64 0, .int .i64 0] 29) = w0 at *
  have hl0 : w.heap.size + 1 < w0.heap.size := hq0.lt
  refine (l20Open_c A n c bs w0 hn'.out hc hcm (hs0.mono (Nat.le_refl _) hb0.size) hb'.out).mono ?_
  rintro e w1 ⟨rfl, hr1, hb1⟩
  have hB1 := hb0.trans (hb1.mono hb0.size)
  have hx1 := hx0.below hb1
  have hq1 := hq0.below hb1
  have hl1 : w0.heap.size < w1.heap.size := hr1.lt
  go_wp2_with fail
  refine (l20Player_c _ 0 w1 hr1 (by omega)).mono ?_
  rintro e w2 ⟨r, A2, n2, c2, xs, rfl, hnx, hn10, hrb, ho2, hr2, h2⟩
  have hx2 := hx1.only h2 (by intro h; injection h with h; omega)
  have hq2 := hq1.only h2 (by intro h; injection h with h; omega)
  have hB2 := hB1.trans (h2.toBelow hB1.size (fun k hk => by injection hk with hk; omega))
  have hl2 : w1.heap.size ≤ w2.heap.size := h2.size
  have hnx' := hide hnx
  clear hnx
  have hA3 := (Below.refl w2.heap.size w2).alloc (Nat.le_refl _) (.cells #[.int .i64 r.1, .int .i64 r.2.1, .int .i64 r.2.2.1, .int .i64 r.2.2.2.1, .int .i64 r.2.2.2.2, .slice A2 n2 c2] 32)
  have hy3 := Box6.made w2 r.1 r.2.1 r.2.2.1 r.2.2.2.1 r.2.2.2.2 A2 n2 c2 32
  have hx3 := hx2.below hA3
  have hq3 := hq2.below hA3
  have hr3 := hr2.keep hA3
  have ho3 := ho2.alloc (.cells #[.int .i64 r.1, .int .i64 r.2.1, .int .i64 r.2.2.1, .int .i64 r.2.2.2.1, .int .i64 r.2.2.2.2, .slice A2 n2 c2] 32)
  have hB3 := hB2.trans (hA3.mono hB2.size)
  go_wp2_with fail
  generalize w2.alloc (.cells #[.int .i64 r.1, .int .i64 r.2.1, .int .i64 r.2.2.1, .int .i64 r.2.2.2.1, .int .i64 r.2.2.2.2, .slice A2 n2 c2] 32) = w3 at *
  have hl3 : w2.heap.size < w3.heap.size := hy3.lt
  refine (l20AnyReq_c _ _ w3 hr3 (by omega)).mono ?_
  rintro e w4 ⟨t, rfl, ht4, hr4, h4⟩
  have hx4 := hx3.only h4 (by intro h; injection h with h; omega)
  have hq4 := hq3.only h4 (by intro h; injection h with h; omega)
  have hy4 := hy3.only h4 (by intro h; injection h with h; omega)
  have ho4 := ho3.only h4 (Nat.le_refl _) (fun k hk h => by injection h with h; have := (ho3.lt k hk).1; omega)
  have hB4 := hB3.trans (h4.toBelow hB3.size (fun k hk => by injection hk with hk; omega))
  have hl4 : w3.heap.size ≤ w4.heap.size := h4.size
  have hkm : ∀ k, (Value.slice A2 n2 c2).ownBlock = some k → k ≠ w4.heap.size := fun k hk => by have := (ho4.lt k hk).2; omega
  have hA5 := (Below.refl w4.heap.size w4).alloc (Nat.le_refl _) (.cells #[.int .i64 t.1, .int .i64 t.2.1, .int .i64 t.2.2.1, .int .i64 t.2.2.2.1, .int .i64 t.2.2.2.2] 29)
  have hm5 := Box5.made w4 t.1 t.2.1 t.2.2.1 t.2.2.2.1 t.2.2.2.2 29
  have hx5 := hx4.below hA5
  have hq5 := hq4.below hA5
  have hy5 := hy4.below hA5
  have hr5 := hr4.keep hA5
  have ho5 := ho4.alloc (.cells #[.int .i64 t.1, .int .i64 t.2.1, .int .i64 t.2.2.1, .int .i64 t.2.2.2.1, .int .i64 t.2.2.2.2] 29)
  have hB5 := hB4.trans (hA5.mono hB4.size)
  go_wp2_with fail
  generalize w4.alloc (.cells #[.int .i64 t.1, .int .i64 t.2.1, .int .i64 t.2.2.1, .int .i64 t.2.2.2.1, .int .i64 t.2.2.2.2] 29) = w5 at *
  have hl5 : w4.heap.size < w5.heap.size := hm5.lt
  refine (pick_c _ _ 4 w5 hr5 (by omega) (by omega)).mono ?_
  rintro e w6 ⟨k, rfl, hk, hr6, h6⟩
  have hx6 := hx5.only h6 (by intro h; injection h with h; omega)
  have hq6 := hq5.only h6 (by intro h; injection h with h; omega)
  have hy6 := hy5.only h6 (by intro h; injection h with h; omega)
  have hm6 := hm5.only h6 (by intro h; injection h with h; omega)
  have ho6 := ho5.only h6 (Nat.le_refl _) (fun k hk h => by injection h with h; have := (ho5.lt k hk).1; omega)
  have hB6 := hB5.trans (h6.toBelow hB5.size (fun k hk => by injection hk with hk; omega))
  have hlx6 := hx6.lt
  have hlq6 := hq6.lt
  have hly6 := hy6.lt
  have hlm6 := hm6.lt
  clear hs hs0 hx0 hq0 hx1 hq1 hx2 hq2 hx3 hq3 hr3 ho3 hB1 hB2 hB3 hb0 hb1 h2 hA3 hr1 hr2 ho2 hn' hb' hy3 h4 hA5 hx4 hq4 hy4 ho4 hB4 hr4 hr5 hr6 h6 hm5 hx5 hq5 hy5 ho5 hB5
  have hx6o := hx6
  have hy6o := hy6
  have hq6o := hq6
  have hm6o := hm6
  have hlo' : w.heap.size ≤ w1.heap.size := by have := hB6.size; omega
  have hk3 : ∀ k, (Value.slice A2 n2 c2).ownBlock = some k → k ≠ w.heap.size := fun k hk => by have := (ho6.lt k hk).1; omega
  obtain ⟨x0, x1, x2, x3, x4, x5, xf0, xf1, xf2, xf3, xf4, xf5⟩ := hx6
  obtain ⟨y0, y1, y2, y3, y4, y5, yf0, yf1, yf2, yf3, yf4, yf5⟩ := hy6
  obtain ⟨q0, q1, q2, q3, q4, qf0, qf1, qf2, qf3, qf4⟩ := hq6
  obtain ⟨m0, m1, m2, m3, m4, mf0, mf1, mf2, mf3, mf4⟩ := hm6
  have hz6 : w4.heap.size ≠ w.heap.size := by omega
  have hz4 : w4.heap.size ≠ w.heap.size + 1 := by omega
  have hk4 : ∀ k, (Value.slice A2 n2 c2).ownBlock = some k → k ≠ w.heap.size + 1 := fun k hk => by have := (ho6.lt k hk).1; omega
  have hl0' : w.heap.size ≤ w.heap.size + 1 := Nat.le_succ _
  by_cases hk0 : 0 < k
  · have d1 : decide (0 < (k : Int)) = true := by simp; omega
    go_wp2
    have hm7 := (hm6o.set0 (v := r.1)).set1 (v := r.2.1 + 1)
    have hB7 := (hB6.setCell (p := ⟨w4.heap.size, 0, none⟩) (by simp; omega) (.int .i64 r.1)).setCell (p := ⟨w4.heap.size, 1, none⟩) (by simp; omega) (.int .i64 (r.2.1 + 1))
    have hh7 : ∀ j, j ≠ w4.heap.size → ((w6.setCell ⟨w4.heap.size, 0, none⟩ (.int .i64 r.1)).setCell ⟨w4.heap.size, 1, none⟩ (.int .i64 (r.2.1 + 1))).heap[j]? = w6.heap[j]? := fun j hj => (Below.heap_setCell _ ⟨_, 1, none⟩ _ j hj).trans (Below.heap_setCell _ ⟨_, 0, none⟩ _ j hj)
    have hx7 := hx6o.keep (hh7 _ (by omega))
    have hq7 := hq6o.keep (hh7 _ (by omega))
    have hy7 := hy6o.keep (hh7 _ (by omega))
    have ho7 := ho6.keep (fun j hj => hh7 j (fun h => hkm j hj h))
    clear hh7 x0 x1 x2 x3 x4 x5 xf0 xf1 xf2 xf3 xf4 xf5 y0 y1 y2 y3 y4 y5 yf0 yf1 yf2 yf3 yf4 yf5 q0 q1 q2 q3 q4 qf0 qf1 qf2 qf3 qf4 m0 m1 m2 m3 m4 mf0 mf1 mf2 mf3 mf4 hx6o hq6o hy6o hm6o
    generalize (w6.setCell ⟨w4.heap.size, 0, none⟩ (.int .i64 r.1)).setCell ⟨w4.heap.size, 1, none⟩ (.int .i64 (r.2.1 + 1)) = w7 at *
    have hlx7 := hx7.lt
    have hlq7 := hq7.lt
    have hly7 := hy7.lt
    have hlm7 := hm7.lt
    obtain ⟨x0, x1, x2, x3, x4, x5, xf0, xf1, xf2, xf3, xf4, xf5⟩ := hx7
    obtain ⟨y0, y1, y2, y3, y4, y5, yf0, yf1, yf2, yf3, yf4, yf5⟩ := hy7
    obtain ⟨q0, q1, q2, q3, q4, qf0, qf1, qf2, qf3, qf4⟩ := hq7
    obtain ⟨m0, m1, m2, m3, m4, mf0, mf1, mf2, mf3, mf4⟩ := hm7
    have hst : Stays w4.heap.size w7.heap[w4.heap.size]? w7 := ⟨rfl⟩
    refine wp_region_T (Stays _ _) [] [] [26] [0, 1, 2, 3] (by kernel_rfl) (by kernel_rfl) (by kernel_rfl) (Stays.drew hst) ?_; simp only [pickL, List.getElem?_cons_succ, List.getElem?_cons_zero]
    go_wp2_with (first
      | ((with_reducible refine Stays.and_ ?_ ?_); (focus (repeat (first | (with_reducible assumption) | (with_reducible refine Stays.drew ?_) | ((with_reducible refine Stays.cell ?_ ?_); rotate_left; (focus (first | (with_reducible assumption) | (simp; done) | (simp; omega))))))); intro hS) | ((with_reducible refine wpT_q0 ?_ ?_ ?_ ?_); (focus rfl); (focus rfl); (focus rfl); intro K hK) | ((with_reducible apply wpT_k); (focus rfl); (focus rfl); (focus rfl); (focus rfl); (focus (first | assumption | exact Stays.drew (by assumption))); (focus rfl); (focus go_simp); intro K hK) | ((with_reducible refine wpT_xs0 ?_ ?_ ?_); (focus rfl); (focus rfl); intro K hK) | ((with_reducible refine wpT_noL ?_ ?_); (focus (first | exact wanted_no _ _ _ rfl rfl rfl | exact wanted_un _ _ _ rfl rfl rfl)); simp only [setO, List.set_cons_succ, List.set_cons_zero]) | ((with_reducible refine wpT_q1 ?_ ?_ ?_ ?_); (focus exact wanted_yes _ _ _ rfl rfl rfl); (focus rfl); (focus rfl); intro K hK) | ((with_reducible refine wpT_xs1 ?_ ?_ ?_); (focus exact wanted_yes _ _ _ rfl rfl rfl); (focus rfl); intro K hK) | ((with_reducible refine wpT_nil ?_); try dsimp only)
      | fail)
    refine bodyPost_ret (v := .tuple #[.agg #[.int .i64 r.1, .int .i64 r.2.1, .int .i64 r.2.2.1, .int .i64 r.2.2.2.1, .int .i64 r.2.2.2.2, .slice A2 n2 c2], .agg #[.int .i64 r.1, .int .i64 (r.2.1 + 1), .int .i64 t.2.2.1, .int .i64 t.2.2.2.1, .int .i64 t.2.2.2.2]]) (by simp [results, Try.results26, go_sem, x0, x1, x2, x3, x4, x5, q0, q1, q2, q3, q4]) rfl ⟨r, A2, n2, c2, xs, (r.1, r.2.1 + 1, t.2.2), rfl, hnx'.out, hn10, ?_, ?_⟩
    · exact (((ho7.mono hlo').set6 _ _ _ _ _ _ hk3).set5 _ _ _ _ _ hk4).drew
    · exact (set5_below _ _ _ _ _ hl0' (set6_below _ _ _ _ _ _ (Nat.le_refl _) hB7)).drew
  · have d1 : decide (0 < (k : Int)) = false := by simp; omega
    go_wp2
    have hst : Stays w4.heap.size w6.heap[w4.heap.size]? w6 := ⟨rfl⟩
    refine wp_region_T (Stays _ _) [] [] [26] [0, 1, 2, 3] (by kernel_rfl) (by kernel_rfl) (by kernel_rfl) (Stays.drew hst) ?_; simp only [pickL, List.getElem?_cons_succ, List.getElem?_cons_zero]
    go_wp2_with (first
      | ((with_reducible refine Stays.and_ ?_ ?_); (focus (repeat (first | (with_reducible assumption) | (with_reducible refine Stays.drew ?_) | ((with_reducible refine Stays.cell ?_ ?_); rotate_left; (focus (first | (with_reducible assumption) | (simp; done) | (simp; omega))))))); intro hS) | ((with_reducible refine wpT_q0 ?_ ?_ ?_ ?_); (focus rfl); (focus rfl); (focus rfl); intro K hK) | ((with_reducible apply wpT_k); (focus rfl); (focus rfl); (focus rfl); (focus rfl); (focus (first | assumption | exact Stays.drew (by assumption))); (focus rfl); (focus go_simp); intro K hK) | ((with_reducible refine wpT_xs0 ?_ ?_ ?_); (focus rfl); (focus rfl); intro K hK) | ((with_reducible refine wpT_noL ?_ ?_); (focus (first | exact wanted_no _ _ _ rfl rfl rfl | exact wanted_un _ _ _ rfl rfl rfl)); simp only [setO, List.set_cons_succ, List.set_cons_zero]) | ((with_reducible refine wpT_q1 ?_ ?_ ?_ ?_); (focus exact wanted_yes _ _ _ rfl rfl rfl); (focus rfl); (focus rfl); intro K hK) | ((with_reducible refine wpT_xs1 ?_ ?_ ?_); (focus exact wanted_yes _ _ _ rfl rfl rfl); (focus rfl); intro K hK) | ((with_reducible refine wpT_nil ?_); try dsimp only)
      | fail)
    refine bodyPost_ret (v := .tuple #[.agg #[.int .i64 r.1, .int .i64 r.2.1, .int .i64 r.2.2.1, .int .i64 r.2.2.2.1, .int .i64 r.2.2.2.2, .slice A2 n2 c2], .agg #[.int .i64 t.1, .int .i64 t.2.1, .int .i64 t.2.2.1, .int .i64 t.2.2.2.1, .int .i64 t.2.2.2.2]]) (by simp [results, Try.results26, go_sem, x0, x1, x2, x3, x4, x5, q0, q1, q2, q3, q4]) rfl ⟨r, A2, n2, c2, xs, t, rfl, hnx'.out, hn10, ?_, ?_⟩
    · exact (((ho6.mono hlo').set6 _ _ _ _ _ _ hk3).set5 _ _ _ _ _ hk4).drew
    · exact (set5_below _ _ _ _ _ hl0' (set6_below _ _ _ _ _ _ (Nat.le_refl _) hB6)).drew

set_option maxRecDepth 100000 in
set_option maxHeartbeats 8000000 in
theorem lawPlayerAskD (A : Option Addr) (n c : Nat) (bs : List Int) (w : World) (hn : n = bs.length) (hc : n ≤ c) (hcm : c ≤ maxLen) (hs : Sl encU 1 w 0 w.heap.size A bs) (hb : ∀ b ∈ bs, 0 ≤ b ∧ b < 256) :
    Calls Try.prog 7 #[.slice A n c] w fun e w' => e = .returned (.bool true) ∧ Below w.heap.size w w' := by
  have hn' := hide hn
  have hb' := hide hb
  clear hn hb
  by_cases hbig : 1048576 < n
  · have d1 : decide (1048576 < (n : Int)) = true := by simp; omega
    go_enter Try.func7, Try.ntmps7
    go_wp2
    go_ret
    exact ⟨rfl, Below.refl _ _⟩
  · have d1 : decide (1048576 < (n : Int)) = false := by simp; omega
    go_enter Try.func7, Try.ntmps7
    go_wp2_with fail
    refine (DrawPlayerAsk_c A n c bs w hn'.out hc hcm hs hb'.out).mono ?_
    rintro e w1 ⟨r, A2, n2, c2, xs, q, rfl, rfl, hn10, op, hB⟩
    have hcap := op.cap
    have hs1 : (w1.alloc (.cells #[.int .i64 r.1, .int .i64 r.2.1, .int .i64 r.2.2.1, .int .i64 r.2.2.2.1, .int .i64 r.2.2.2.2, .slice A2 xs.length c2] 32)).heap.size = w1.heap.size + 1 := by simp
    have hA1 : Below w1.heap.size w1 (w1.alloc (.cells #[.int .i64 r.1, .int .i64 r.2.1, .int .i64 r.2.2.1, .int .i64 r.2.2.2.1, .int .i64 r.2.2.2.2, .slice A2 xs.length c2] 32)) := (Below.refl _ _).alloc (Nat.le_refl _) _
    have hA2 : Below (w1.alloc (.cells #[.int .i64 r.1, .int .i64 r.2.1, .int .i64 r.2.2.1, .int .i64 r.2.2.2.1, .int .i64 r.2.2.2.2, .slice A2 xs.length c2] 32)).heap.size (w1.alloc (.cells #[.int .i64 r.1, .int .i64 r.2.1, .int .i64 r.2.2.1, .int .i64 r.2.2.2.1, .int .i64 r.2.2.2.2, .slice A2 xs.length c2] 32)) ((w1.alloc (.cells #[.int .i64 r.1, .int .i64 r.2.1, .int .i64 r.2.2.1, .int .i64 r.2.2.2.1, .int .i64 r.2.2.2.2, .slice A2 xs.length c2] 32)).alloc (.cells #[.int .i64 q.1, .int .i64 q.2.1, .int .i64 q.2.2.1, .int .i64 q.2.2.2.1, .int .i64 q.2.2.2.2] 29)) := (Below.refl _ _).alloc (Nat.le_refl _) _
    have hB := (hB.trans (hA1.mono hB.size)).trans (hA2.mono (by have := hB.size; omega))
    have hx := (Box6.made w1 r.1 r.2.1 r.2.2.1 r.2.2.2.1 r.2.2.2.2 A2 xs.length c2 32).below hA2
    have hm := Box5.made (w1.alloc (.cells #[.int .i64 r.1, .int .i64 r.2.1, .int .i64 r.2.2.1, .int .i64 r.2.2.2.1, .int .i64 r.2.2.2.2, .slice A2 xs.length c2] 32)) q.1 q.2.1 q.2.2.1 q.2.2.2.1 q.2.2.2.2 29
    rw [hs1] at hm
    have op := (op.alloc (.cells #[.int .i64 r.1, .int .i64 r.2.1, .int .i64 r.2.2.1, .int .i64 r.2.2.2.1, .int .i64 r.2.2.2.2, .slice A2 xs.length c2] 32)).alloc (.cells #[.int .i64 q.1, .int .i64 q.2.1, .int .i64 q.2.2.1, .int .i64 q.2.2.2.1, .int .i64 q.2.2.2.2] 29)
    clear hA1 hA2 hs1 hs hb' hn'
    have hx' := hx
    have hm' := hm
    obtain ⟨x0, x1, x2, x3, x4, x5, xf0, xf1, xf2, xf3, xf4, xf5⟩ := hx'
    obtain ⟨m0, m1, m2, m3, m4, mf0, mf1, mf2, mf3, mf4⟩ := hm'
    go_wp2_with fail
    generalize (w1.alloc (.cells #[.int .i64 r.1, .int .i64 r.2.1, .int .i64 r.2.2.1, .int .i64 r.2.2.2.1, .int .i64 r.2.2.2.2, .slice A2 xs.length c2] 32)).alloc (.cells #[.int .i64 q.1, .int .i64 q.2.1, .int .i64 q.2.2.1, .int .i64 q.2.2.2.1, .int .i64 q.2.2.2.2] 29) = w2 at *
    rcases ask_cases r xs q with hh | ⟨hh, hs1, hs3, hlt⟩
    · have hh := hide hh
      refine (PlayerAsk_c r A2 xs.length c2 _ _ xs q w2 rfl (by omega) hcap.1 hcap.2 (op.slAt encReply_len).2.2 (Nat.le_refl _)).mono ?_
      rintro e w3 ⟨r3, A3, n3, c3, b3, rfl, oq, hn3, hr3, hb3, hk3⟩
      rw [hh.out] at oq hn3 hr3 hb3
      dsimp only at oq hn3 hr3 hb3
      obtain rfl : n3 = xs.length := by rw [hn3]
      clear hn3
      subst r3
      subst b3
      have hx := hx.below hk3
      have hm := hm.below hk3
      have op := op.below hk3 (Nat.le_refl _)
      have hB := hB.trans (hk3.mono hB.size)
      have hcapx := oq.cap
      have hA := (Below.refl w3.heap.size w3).alloc (Nat.le_refl _) (.cells #[.int .i64 r.1, .int .i64 r.2.1, .int .i64 r.2.2.1, .int .i64 r.2.2.2.1, .int .i64 r.2.2.2.2, .slice A3 xs.length c3] 32)
      have hB := hB.trans (hA.mono hB.size)
      have hx := hx.below hA
      have hm := hm.below hA
      have op := op.below hA (Nat.le_refl _)
      have oq := oq.below hA (Nat.le_refl _)
      have hy := Box6.made w3 r.1 r.2.1 r.2.2.1 r.2.2.2.1 r.2.2.2.2 A3 xs.length c3 32
      have hbb := hx
      obtain ⟨x0, x1, x2, x3, x4, x5, xf0, xf1, xf2, xf3, xf4, xf5⟩ := hbb
      have hbb := hm
      obtain ⟨m0, m1, m2, m3, m4, mf0, mf1, mf2, mf3, mf4⟩ := hbb
      have hbb := hy
      obtain ⟨y0, y1, y2, y3, y4, y5, yf0, yf1, yf2, yf3, yf4, yf5⟩ := hbb
      go_wp2_with fail
      clear hA
      generalize w3.alloc (.cells #[.int .i64 r.1, .int .i64 r.2.1, .int .i64 r.2.2.1, .int .i64 r.2.2.2.1, .int .i64 r.2.2.2.2, .slice A3 xs.length c3] 32) = w4 at *
      refine (specPlayerAsk_c r A2 xs.length c2 _ _ xs q w4 rfl (by omega) hcap.1 hcap.2 (op.slAt encReply_len).2.2 (Nat.le_refl _)).mono ?_
      rintro e w5 ⟨r4, A4, n4, c4, b4, rfl, ou, hn4, hr4, hb4, hk5⟩
      rw [hh.out] at ou hn4 hr4 hb4
      dsimp only at ou hn4 hr4 hb4
      obtain rfl : n4 = xs.length := by rw [hn4]
      clear hn4
      subst r4
      subst b4
      have hx := hx.below hk5
      have hm := hm.below hk5
      have hy := hy.below hk5
      have op := op.below hk5 (Nat.le_refl _)
      have oq := oq.below hk5 (Nat.le_refl _)
      have hB := hB.trans (hk5.mono hB.size)
      have hA := (Below.refl w5.heap.size w5).alloc (Nat.le_refl _) (.cells #[.int .i64 r.1, .int .i64 r.2.1, .int .i64 r.2.2.1, .int .i64 r.2.2.2.1, .int .i64 r.2.2.2.2, .slice A4 xs.length c4] 32)
      have hB := hB.trans (hA.mono hB.size)
      have hx := hx.below hA
      have hm := hm.below hA
      have hy := hy.below hA
      have op := op.below hA (Nat.le_refl _)
      have oq := oq.below hA (Nat.le_refl _)
      have ou := ou.below hA (Nat.le_refl _)
      have hz := Box6.made w5 r.1 r.2.1 r.2.2.1 r.2.2.2.1 r.2.2.2.2 A4 xs.length c4 32
      have hbb := hx
      obtain ⟨x0, x1, x2, x3, x4, x5, xf0, xf1, xf2, xf3, xf4, xf5⟩ := hbb
      have hbb := hm
      obtain ⟨m0, m1, m2, m3, m4, mf0, mf1, mf2, mf3, mf4⟩ := hbb
      have hbb := hy
      obtain ⟨y0, y1, y2, y3, y4, y5, yf0, yf1, yf2, yf3, yf4, yf5⟩ := hbb
      have hbb := hz
      obtain ⟨z0, z1, z2, z3, z4, z5, zf0, zf1, zf2, zf3, zf4, zf5⟩ := hbb
      go_wp2_with fail
      clear hA
      generalize w5.alloc (.cells #[.int .i64 r.1, .int .i64 r.2.1, .int .i64 r.2.2.1, .int .i64 r.2.2.2.1, .int .i64 r.2.2.2.2, .slice A4 xs.length c4] 32) = w6 at *
      refine (wpSameP_c (r := r) oq ou (by omega)).mono ?_
      rintro e w7 ⟨rfl, hk7⟩
      have hx := hx.below hk7
      have hm := hm.below hk7
      have hy := hy.below hk7
      have hz := hz.below hk7
      have op := op.below hk7 (Nat.le_refl _)
      have oq := oq.below hk7 (Nat.le_refl _)
      have ou := ou.below hk7 (Nat.le_refl _)
      have hB := hB.trans (hk7.mono hB.size)
      have hbb := hx
      obtain ⟨x0, x1, x2, x3, x4, x5, xf0, xf1, xf2, xf3, xf4, xf5⟩ := hbb
      have hbb := hm
      obtain ⟨m0, m1, m2, m3, m4, mf0, mf1, mf2, mf3, mf4⟩ := hbb
      have hbb := hy
      obtain ⟨y0, y1, y2, y3, y4, y5, yf0, yf1, yf2, yf3, yf4, yf5⟩ := hbb
      have hbb := hz
      obtain ⟨z0, z1, z2, z3, z4, z5, zf0, zf1, zf2, zf3, zf4, zf5⟩ := hbb
      go_wp2_with fail
      refine (wpSameP_c (r := r) oq ou (by omega)).mono ?_
      rintro e w8 ⟨rfl, hk8⟩
      have hx := hx.below hk8
      have hm := hm.below hk8
      have hy := hy.below hk8
      have hz := hz.below hk8
      have op := op.below hk8 (Nat.le_refl _)
      have oq := oq.below hk8 (Nat.le_refl _)
      have ou := ou.below hk8 (Nat.le_refl _)
      have hB := hB.trans (hk8.mono hB.size)
      have hbb := hx
      obtain ⟨x0, x1, x2, x3, x4, x5, xf0, xf1, xf2, xf3, xf4, xf5⟩ := hbb
      have hbb := hm
      obtain ⟨m0, m1, m2, m3, m4, mf0, mf1, mf2, mf3, mf4⟩ := hbb
      have hbb := hy
      obtain ⟨y0, y1, y2, y3, y4, y5, yf0, yf1, yf2, yf3, yf4, yf5⟩ := hbb
      have hbb := hz
      obtain ⟨z0, z1, z2, z3, z4, z5, zf0, zf1, zf2, zf3, zf4, zf5⟩ := hbb
      go_wp2_with fail
      refine (wpSameP_c (r := r) oq op (by omega)).mono ?_
      rintro e w9 ⟨rfl, hk9⟩
      have hx := hx.below hk9
      have hm := hm.below hk9
      have hy := hy.below hk9
      have hz := hz.below hk9
      have op := op.below hk9 (Nat.le_refl _)
      have oq := oq.below hk9 (Nat.le_refl _)
      have ou := ou.below hk9 (Nat.le_refl _)
      have hB := hB.trans (hk9.mono hB.size)
      have hbb := hx
      obtain ⟨x0, x1, x2, x3, x4, x5, xf0, xf1, xf2, xf3, xf4, xf5⟩ := hbb
      have hbb := hm
      obtain ⟨m0, m1, m2, m3, m4, mf0, mf1, mf2, mf3, mf4⟩ := hbb
      have hbb := hy
      obtain ⟨y0, y1, y2, y3, y4, y5, yf0, yf1, yf2, yf3, yf4, yf5⟩ := hbb
      have hbb := hz
      obtain ⟨z0, z1, z2, z3, z4, z5, zf0, zf1, zf2, zf3, zf4, zf5⟩ := hbb
      go_wp2
      go_ret
      exact ⟨rfl, hB⟩
    · have hh := hide hh
      have hs1 := hide hs1
      have hs2 := hide (sure_none q)
      have hs3 := hide (decide_eq_true (okPl_none hs3))
      have d2 : decide (r.2.1 < q.2.1) = true := by simpa using hlt
      clear hlt
      refine (PlayerAsk_c r A2 xs.length c2 _ _ xs q w2 rfl (by omega) hcap.1 hcap.2 (op.slAt encReply_len).2.2 (Nat.le_refl _)).mono ?_
      rintro e w3 ⟨r3, A3, n3, c3, b3, rfl, oq, hn3, hr3, hb3, hk3⟩
      rw [hh.out] at oq hn3 hr3 hb3
      dsimp only at oq hn3 hr3 hb3
      obtain rfl : n3 = 0 := by rw [hn3]; rfl
      clear hn3
      subst r3
      subst b3
      have hx := hx.below hk3
      have hm := hm.below hk3
      have op := op.below hk3 (Nat.le_refl _)
      have hB := hB.trans (hk3.mono hB.size)
      have hcapx := oq.cap
      have hA := (Below.refl w3.heap.size w3).alloc (Nat.le_refl _) (.cells #[.int .i64 q.1, .int .i64 q.2.1, .int .i64 q.2.2.1, .int .i64 q.2.2.2.1, .int .i64 q.2.2.2.2, .slice A3 0 c3] 32)
      have hB := hB.trans (hA.mono hB.size)
      have hx := hx.below hA
      have hm := hm.below hA
      have op := op.below hA (Nat.le_refl _)
      have oq := oq.below hA (Nat.le_refl _)
      have hy := Box6.made w3 q.1 q.2.1 q.2.2.1 q.2.2.2.1 q.2.2.2.2 A3 0 c3 32
      have hbb := hx
      obtain ⟨x0, x1, x2, x3, x4, x5, xf0, xf1, xf2, xf3, xf4, xf5⟩ := hbb
      have hbb := hm
      obtain ⟨m0, m1, m2, m3, m4, mf0, mf1, mf2, mf3, mf4⟩ := hbb
      have hbb := hy
      obtain ⟨y0, y1, y2, y3, y4, y5, yf0, yf1, yf2, yf3, yf4, yf5⟩ := hbb
      go_wp2_with fail
      clear hA
      generalize w3.alloc (.cells #[.int .i64 q.1, .int .i64 q.2.1, .int .i64 q.2.2.1, .int .i64 q.2.2.2.1, .int .i64 q.2.2.2.2, .slice A3 0 c3] 32) = w4 at *
      refine (specPlayerAsk_c r A2 xs.length c2 _ _ xs q w4 rfl (by omega) hcap.1 hcap.2 (op.slAt encReply_len).2.2 (Nat.le_refl _)).mono ?_
      rintro e w5 ⟨r4, A4, n4, c4, b4, rfl, ou, hn4, hr4, hb4, hk5⟩
      rw [hh.out] at ou hn4 hr4 hb4
      dsimp only at ou hn4 hr4 hb4
      obtain rfl : n4 = 0 := by rw [hn4]; rfl
      clear hn4
      subst r4
      subst b4
      have hx := hx.below hk5
      have hm := hm.below hk5
      have hy := hy.below hk5
      have op := op.below hk5 (Nat.le_refl _)
      have oq := oq.below hk5 (Nat.le_refl _)
      have hB := hB.trans (hk5.mono hB.size)
      have hA := (Below.refl w5.heap.size w5).alloc (Nat.le_refl _) (.cells #[.int .i64 q.1, .int .i64 q.2.1, .int .i64 q.2.2.1, .int .i64 q.2.2.2.1, .int .i64 q.2.2.2.2, .slice A4 0 c4] 32)
      have hB := hB.trans (hA.mono hB.size)
      have hx := hx.below hA
      have hm := hm.below hA
      have hy := hy.below hA
      have op := op.below hA (Nat.le_refl _)
      have oq := oq.below hA (Nat.le_refl _)
      have ou := ou.below hA (Nat.le_refl _)
      have hz := Box6.made w5 q.1 q.2.1 q.2.2.1 q.2.2.2.1 q.2.2.2.2 A4 0 c4 32
      have hbb := hx
      obtain ⟨x0, x1, x2, x3, x4, x5, xf0, xf1, xf2, xf3, xf4, xf5⟩ := hbb
      have hbb := hm
      obtain ⟨m0, m1, m2, m3, m4, mf0, mf1, mf2, mf3, mf4⟩ := hbb
      have hbb := hy
      obtain ⟨y0, y1, y2, y3, y4, y5, yf0, yf1, yf2, yf3, yf4, yf5⟩ := hbb
      have hbb := hz
      obtain ⟨z0, z1, z2, z3, z4, z5, zf0, zf1, zf2, zf3, zf4, zf5⟩ := hbb
      go_wp2_with fail
      clear hA
      generalize w5.alloc (.cells #[.int .i64 q.1, .int .i64 q.2.1, .int .i64 q.2.2.1, .int .i64 q.2.2.2.1, .int .i64 q.2.2.2.2, .slice A4 0 c4] 32) = w6 at *
      refine (wpSameP_c (r := q) oq ou (by simp)).mono ?_
      rintro e w7 ⟨rfl, hk7⟩
      have hx := hx.below hk7
      have hm := hm.below hk7
      have hy := hy.below hk7
      have hz := hz.below hk7
      have op := op.below hk7 (Nat.le_refl _)
      have oq := oq.below hk7 (Nat.le_refl _)
      have ou := ou.below hk7 (Nat.le_refl _)
      have hB := hB.trans (hk7.mono hB.size)
      have hbb := hx
      obtain ⟨x0, x1, x2, x3, x4, x5, xf0, xf1, xf2, xf3, xf4, xf5⟩ := hbb
      have hbb := hm
      obtain ⟨m0, m1, m2, m3, m4, mf0, mf1, mf2, mf3, mf4⟩ := hbb
      have hbb := hy
      obtain ⟨y0, y1, y2, y3, y4, y5, yf0, yf1, yf2, yf3, yf4, yf5⟩ := hbb
      have hbb := hz
      obtain ⟨z0, z1, z2, z3, z4, z5, zf0, zf1, zf2, zf3, zf4, zf5⟩ := hbb
      go_wp2_with fail
      refine (PlayerSure_c r A2 xs.length c2 _ _ xs w7 rfl (by omega) hcap.1 hcap.2 (op.slAt encReply_len).2.2 (Nat.le_refl _)).mono ?_
      rintro e w8 ⟨he, hk8⟩
      rw [hs1.out] at he
      subst he
      have hx := hx.below hk8
      have hm := hm.below hk8
      have hy := hy.below hk8
      have op := op.below hk8 (Nat.le_refl _)
      have oq := oq.below hk8 (Nat.le_refl _)
      have hB := hB.trans (hk8.mono hB.size)
      have hA := (Below.refl w8.heap.size w8).alloc (Nat.le_refl _) (.cells #[.int .i64 (sureL r xs).1.1, .int .i64 (sureL r xs).1.2.1, .int .i64 (sureL r xs).1.2.2.1, .int .i64 (sureL r xs).1.2.2.2] 37)
      have hB := hB.trans (hA.mono hB.size)
      have hx := hx.below hA
      have hm := hm.below hA
      have hy := hy.below hA
      have op := op.below hA (Nat.le_refl _)
      have oq := oq.below hA (Nat.le_refl _)
      have hbb := hx
      obtain ⟨x0, x1, x2, x3, x4, x5, xf0, xf1, xf2, xf3, xf4, xf5⟩ := hbb
      have hbb := hm
      obtain ⟨m0, m1, m2, m3, m4, mf0, mf1, mf2, mf3, mf4⟩ := hbb
      have hbb := hy
      obtain ⟨y0, y1, y2, y3, y4, y5, yf0, yf1, yf2, yf3, yf4, yf5⟩ := hbb
      go_wp2_with fail
      clear hA
      generalize w8.alloc (.cells #[.int .i64 (sureL r xs).1.1, .int .i64 (sureL r xs).1.2.1, .int .i64 (sureL r xs).1.2.2.1, .int .i64 (sureL r xs).1.2.2.2] 37) = w9 at *
      refine (PlayerSure_c q A3 0 c3 _ _ [] w9 rfl (by omega) hcapx.1 hcapx.2 (oq.slAt encReply_len).2.2 (Nat.le_refl _)).mono ?_
      rintro e w10 ⟨he, hk10⟩
      rw [hs2.out] at he
      subst he
      have hx := hx.below hk10
      have hm := hm.below hk10
      have hy := hy.below hk10
      have op := op.below hk10 (Nat.le_refl _)
      have oq := oq.below hk10 (Nat.le_refl _)
      have hB := hB.trans (hk10.mono hB.size)
      have hA := (Below.refl w10.heap.size w10).alloc (Nat.le_refl _) (.cells #[.int .i64 0, .int .i64 0, .int .i64 0, .int .i64 0] 37)
      have hB := hB.trans (hA.mono hB.size)
      have hx := hx.below hA
      have hm := hm.below hA
      have hy := hy.below hA
      have op := op.below hA (Nat.le_refl _)
      have oq := oq.below hA (Nat.le_refl _)
      have hbb := hx
      obtain ⟨x0, x1, x2, x3, x4, x5, xf0, xf1, xf2, xf3, xf4, xf5⟩ := hbb
      have hbb := hm
      obtain ⟨m0, m1, m2, m3, m4, mf0, mf1, mf2, mf3, mf4⟩ := hbb
      have hbb := hy
      obtain ⟨y0, y1, y2, y3, y4, y5, yf0, yf1, yf2, yf3, yf4, yf5⟩ := hbb
      go_wp2_with fail
      clear hA
      generalize w10.alloc (.cells #[.int .i64 0, .int .i64 0, .int .i64 0, .int .i64 0] 37) = w11 at *
      refine (PlayerOk_c q A3 0 c3 _ _ [] w11 rfl (by omega) hcapx.1 hcapx.2 (oq.slAt encReply_len).2.2 (Nat.le_refl _)).mono ?_
      rintro e w12 ⟨he, hk12⟩
      rw [hs3.out] at he
      subst he
      have hx := hx.below hk12
      have hm := hm.below hk12
      have hy := hy.below hk12
      have op := op.below hk12 (Nat.le_refl _)
      have oq := oq.below hk12 (Nat.le_refl _)
      have hB := hB.trans (hk12.mono hB.size)
      have hbb := hx
      obtain ⟨x0, x1, x2, x3, x4, x5, xf0, xf1, xf2, xf3, xf4, xf5⟩ := hbb
      have hbb := hm
      obtain ⟨m0, m1, m2, m3, m4, mf0, mf1, mf2, mf3, mf4⟩ := hbb
      have hbb := hy
      obtain ⟨y0, y1, y2, y3, y4, y5, yf0, yf1, yf2, yf3, yf4, yf5⟩ := hbb
      go_wp2
      go_ret
      exact ⟨rfl, hB⟩

/-! ### The row of 'laws.FnPlayerAsk' -/
namespace FnPlayerAsk
open Go.ChangeShapes Go.WideShapes Go.ChangeAt Go.RowKit
open Go.ChangeMaps (open_string shut_string)
theorem own : ownKnob Try.prog.godebug = none := by kernel_rfl
theorem laidOut : laidOutB Try.prog = true := by kernel_rfl

set_option maxRecDepth 100000 in
set_option maxHeartbeats 1000000 in
theorem lifted (os : Os) (started : os.Started) (H : Type) (enc : TypeId × Value → H) :
    ReturnsInHanded {} Try.checked os 7 .any (Rows.fnPlayerAskSpec.pre6 enc Try.prog Try.f7 Rows.fnPlayerAskRow.domain false) (Rows.fnPlayerAskSpec.post enc Try.prog Try.f7 false true false false) := by
  refine returnsInHanded_of_change (C := Try.checked) own started (by kernel_rfl) Try.func7
    (ChangeSpec.witness6 (enc := enc) (C := Try.checked) false ⟨#[], #[.slice none 0 0], []⟩ 8 (by kernel_rfl) (by kernel_rfl) (by kernel_rfl) (by kernel_rfl)) ?_
  intro W base args ds gs before hval0 hW hcnd _
  have hval : ∀ (j : Nat) t v, Try.f7.params[j]? = some t → args[j]? = some v → Value.okWide Try.prog W .any base t v := hval0
  have hW' := hW
  obtain ⟨p, q, hA0, hV, rfl, hfz, hnd⟩ := hW
  have hA : DataW.TrodAll enc Try.prog W 0 (fun _ => true) true Try.f7.params.toList args.toList ds p := hA0
  rw [Try.params7] at hA hval
  obtain ⟨v0, vs0, d0, ds0, p0, q0, hargs, rfl, rfl, h0, r0⟩ := trodAll_cons hA
  obtain ⟨rfl, rfl, rfl⟩ := trodAll_nil r0
  obtain rfl : args = #[v0] := by cases args; simp_all
  obtain ⟨rfl, rfl⟩ := trodVars_none hV
  have k0 := h0
  have lt0 : ∀ x ∈ p0, x.block < W.heap.size := by obtain ⟨m, hm⟩ := k0; exact DataW.trod_lt m _ _ _ hm
  obtain ⟨A0, len0, cap0, z0, rfl, hl0, hc0, hm0, w0, g0⟩ : ∃ A len cap, ∃ xs : List Int, v0 = .slice A len cap ∧ len = xs.length ∧ len ≤ cap ∧ cap ≤ maxLen ∧ Sl encU 1 W 0 W.heap.size A xs ∧ ∀ x ∈ xs, (fun b => 0 ≤ b ∧ b < 256) x := by
    obtain ⟨fuel, hf⟩ := h0
    obtain ⟨a0, len0, cap0, rfl⟩ := okWide_slice Try.underlying41 (hval 0 41 v0 rfl rfl)
    simp only [Value.cells] at hf
    exact trod_sl (encA := encU) (sz := 1) (Good := fun b => 0 ≤ b ∧ b < 256) Try.underlying41 (by kernel_rfl) (by omega) encU_len hf (fun n cs y hy => (by obtain ⟨k, h1, _, h2⟩ := DataW.trod_int Try.underlying5 hy; exact ⟨k, h1, u8_wf h2⟩))
  clear hA0 hval0
  refine (lawPlayerAskD A0 len0 cap0 z0 W hl0 hc0 hm0 w0 g0).mono fun e W' ⟨he, bel⟩ => ?_
  subst he
  exact ⟨_, rfl, _, _, _, [], _, [], hW', trodAll_mk1 (shut_bool Try.underlying4 _), (trodAll_cons_mk (Below.trod laidOut (by kernel_rfl) (of_decide_eq_true (by kernel_rfl)) k0 bel lt0) trodAll_mk0), rfl, bel.frame _, fun h => by cases h⟩

theorem over : Rows.fnPlayerAskRow.holds Try.pinned (OpenSpec.ofChange Rows.fnPlayerAskSpec) :=
  OpenClaim.holds_of_wide 7 Try.f7 rfl rfl rfl rfl rfl rfl rfl ⟨rfl, rfl, rfl, rfl, rfl⟩ rfl rfl rfl rfl rfl (by kernel_rfl) Try.func7 (by kernel_rfl)
    (of_decide_eq_true (by kernel_rfl)) (by unfold Func.isWrapper; first | (rw [if_pos (by decide +kernel)]; kernel_rfl) | (rw [if_neg (by decide +kernel)]; exact ⟨rfl, rfl⟩))
    (fun os started H enc _ => lifted os started H enc)

theorem proved : Rows.FnPlayerAskSaid := over
end FnPlayerAsk
end Go.Proofs.Ytchofialljhojaa
