/-
  'DrawQueueAdd'.
-/
import Derived.Test.YtaklfalkpkifmaaQYc
namespace Go.Proofs.Ytaklfalkpkifmaa
open Go.RowKit Rg
set_option linter.unusedVariables false

/-- The last step: a box is written, a slice and what the box holds are told. -/
theorem fin_add {w w4 : World} {c2 : Nat} (A2 : Option Addr) (q : List Tm) (t : Tm) (hq : q.length ≤ 25) (ho : Own encT 3 31 w4 w.heap.size (.slice A2 q.length c2) q) (hB : Below w.heap.size w w4) (hne : ∀ b, (Value.slice A2 q.length c2).ownBlock = some b → b ≠ w.heap.size) :
    ∃ (v : Value) (q' : List Tm) (t' : Tm), Ending.returned (.tuple #[.slice A2 q.length c2, .agg #[.int .i64 t.1, .int .i64 t.2.1, .int .i64 t.2.2]]) = .returned (.tuple #[v, .agg #[.int .i64 t'.1, .int .i64 t'.2.1, .int .i64 t'.2.2]]) ∧ q'.length ≤ 25 ∧ Own encT 3 31 (((w4.setCell ⟨w.heap.size, 0, none⟩ (.int .i64 t.1)).setCell ⟨w.heap.size, 1, none⟩ (.int .i64 t.2.1)).setCell ⟨w.heap.size, 2, none⟩ (.int .i64 t.2.2)) w.heap.size v q' ∧ Below w.heap.size w (((w4.setCell ⟨w.heap.size, 0, none⟩ (.int .i64 t.1)).setCell ⟨w.heap.size, 1, none⟩ (.int .i64 t.2.1)).setCell ⟨w.heap.size, 2, none⟩ (.int .i64 t.2.2)) :=
  ⟨_, q, t, rfl, hq, ho.keep (fun b hb => ((Below.heap_setCell _ ⟨_, 2, none⟩ _ b (hne b hb)).trans (Below.heap_setCell _ ⟨_, 1, none⟩ _ b (hne b hb))).trans (Below.heap_setCell _ ⟨_, 0, none⟩ _ b (hne b hb))), hB.trans ((((Below.refl w.heap.size w4).setCell (by simp) _).setCell (by simp) _).setCell (by simp) _)⟩
set_option maxHeartbeats 2000000 in
theorem DrawQueueAdd_c (A : Option Addr) (n c : Nat) (bs : List Int) (w : World) (hn : n = bs.length) (hc : n ≤ c) (hcm : c ≤ maxLen) (hs : Sl encU 1 w 0 w.heap.size A bs) (hb : ∀ b ∈ bs, 0 ≤ b ∧ b < 256) :
    Calls Try.prog 17 #[.slice A n c] w fun e w' => ∃ (v : Value) (q : List Tm) (t : Tm), e = .returned (.tuple #[v, .agg #[.int .i64 t.1, .int .i64 t.2.1, .int .i64 t.2.2]]) ∧ q.length ≤ 25 ∧ Own encT 3 31 w' w.heap.size v q ∧ Below w.heap.size w w' := by
  have hn' := hide hn
  have hb' := hide hb
  clear hn hb
  have hb0 : Below w.heap.size w (w.alloc (.cells #[.int .i64 0, .int .i64 0, .int .i64 0] 31)) := (Below.refl _ _).alloc (Nat.le_refl _) _
  have hx0 := Box3.made w 0 0 0 31
  have hs0 := hs.below hb0 (Nat.le_refl _)
  have hl0 : w.heap.size + 1 = (w.alloc (.cells #[.int .i64 0, .int .i64 0, .int .i64 0] 31)).heap.size := by simp
  go_enter Try.func17, Try.ntmps17
  go_wp2_with fail
  generalize w.alloc (.cells #[.int .i64 0, .int .i64 0, .int .i64 0] 31) = w0 at *
  have hs0' : Sl encU 1 w0 0 w0.heap.size A bs := hs0.mono (Nat.le_refl _) hb0.size
  have hl0' := hide hl0
  clear hl0
  refine (l20Open_c A n c bs w0 hn'.out hc hcm hs0' hb'.out).mono ?_
  rintro e w1 ⟨rfl, hr1, hb1⟩
  have hB1 := hb0.trans (hb1.mono hb0.size)
  have hx1 := hx0.below hb1
  go_wp2_with fail
  refine (l20Queue_c _ 0 w1 hr1 (by omega)).mono ?_
  rintro e w2 ⟨v, q, rfl, hq, ho2, hr2, h2⟩
  have hg : w.heap.size < w0.heap.size := by have := hl0'.out; omega
  have hgx : some w0.heap.size ≠ some w.heap.size := by intro h; injection h with h; omega
  have hx2 := hx1.only h2 hgx
  have hB2 := hB1.trans (h2.toBelow hB1.size (fun k hk => by injection hk with hk; omega))
  obtain ⟨A2, c2, rfl, hc21, hc22, hs2⟩ := ho2.sl encT_len
  have ho2w := ho2.mono hB1.size
  have hl1 : w0.heap.size < w1.heap.size := hr1.lt
  have hneq : ∀ b, (Value.slice A2 q.length c2).ownBlock = some b → some w0.heap.size ≠ some b := fun b hb e => by injection e with e; have := (ho2.lt b hb).1; omega
  clear hb1 h2 hx0 hx1 hs0 hs hs0' hr1
  by_cases h0 : 0 < q.length
  · have d1 : decide (0 < (q.length : Int)) = true := by simpa using h0
    go_wp2_with fail
    refine (pick_c _ _ 6 w2 hr2 (by omega) (by omega)).mono ?_
    rintro e w3 ⟨k, rfl, hk, hr3, h3⟩
    have hx3 := hx2.only h3 hgx
    have ho3 := ho2.only h3 (Nat.le_refl _) hneq
    have hB3 := hB2.trans (h3.toBelow hB2.size (fun k hk => by injection hk with hk; omega))
    clear hk
    have hle3 : w.heap.size < w3.heap.size := hx3.lt
    by_cases hk0 : k = 0
    · have d2 : ((k : Int) == 0) = true := by simp [hk0]
      obtain ⟨g2, rfl, hg21, hg22⟩ := ho2.addrAt (k := 0) h0
      have hr3' : Rd w3.drew w0.heap.size (0 + 200 + 1) := hr3
      have hx3' : Box3 w3.drew w.heap.size 0 0 0 := hx3
      have ho3' : Own encT 3 31 w3.drew w1.heap.size (.slice (some ⟨g2, 0, none⟩) q.length c2) q := ho3
      have hqi : (q.length : Int) ≤ 1000000000 := by omega
      go_wp2
      refine wp_region_T (fun _ => True) [] [] [] [0, 1, 2, 3, 4, 5, 6, 7, 8, 9] (by kernel_rfl) (by kernel_rfl) (by kernel_rfl) trivial ?_; simp only [pickL, List.getElem?_cons_succ, List.getElem?_cons_zero]
      go_wp2_with (first
        | ((with_reducible refine wpT_q0 ?_ ?_ ?_ ?_); (focus rfl); (focus rfl); (focus rfl); intro K hK) | ((with_reducible refine wpT_x0 ?_ ?_ ?_); (focus rfl); (focus rfl); intro K hK) | ((with_reducible refine wpT_noL ?_ ?_); (focus (first | exact wanted_no _ _ _ rfl rfl rfl | exact wanted_un _ _ _ rfl rfl rfl)); simp only [setO, List.set_cons_succ, List.set_cons_zero]) | ((with_reducible refine wpT_q1 ?_ ?_ ?_ ?_); (focus exact wanted_yes _ _ _ rfl rfl rfl); (focus rfl); (focus rfl); intro K hK) | ((with_reducible refine wpT_x1 ?_ ?_ ?_); (focus exact wanted_yes _ _ _ rfl rfl rfl); (focus rfl); intro K hK) | ((with_reducible refine wpT_nil ?_); try dsimp only)
        | (go_at_call 41; refine (pick_c _ _ (q.length : Int) w3.drew hr3' (by omega) hqi).mono ?_; rintro e w4 ⟨k4, rfl, hk4, hr4, h4⟩; have hk4' : k4 < q.length := (by have := hk4.1 (by omega); omega); clear hk4; have hx4 := hx3'.only h4 hgx; have ho4 := ho3'.only h4 (Nat.le_refl _) hneq; have hB4 := hB3.drew.trans (h4.toBelow (show w.heap.size ≤ w3.drew.heap.size from hB3.size) (fun k hk => by injection hk with hk; omega)); obtain ⟨z0, z1, z2, zf⟩ := hx4; have f0 := zf 0; have f1 := zf 1; have f2 := zf 2; obtain ⟨p1, p2, p3⟩ := ho4.tm hk4'))
      exact bodyPost_ret (v := .tuple #[.slice (some ⟨g2, 0, none⟩) q.length c2, .agg #[.int .i64 q[k4].1, .int .i64 q[k4].2.1, .int .i64 q[k4].2.2]]) (by simp [results, Try.results17, go_sem, z0, z1, z2]) rfl (fin_add (w4 := w4) (some ⟨g2, 0, none⟩) q q[k4] hq (ho4.mono hB1.size) hB4 (fun b hb e => by have := (ho2.lt b hb).1; omega))
    · have d2 : ((k : Int) == 0) = false := by simpa using hk0
      go_wp2_with fail
      refine (l20Timed_c _ _ w3 hr3 (by omega)).mono ?_
      rintro e w4 ⟨t, rfl, hr4, h4⟩
      have hx4 := hx3.only h4 hgx
      have ho4 := ho3.only h4 (Nat.le_refl _) hneq
      have hB4 := hB3.trans (h4.toBelow hB3.size (fun k hk => by injection hk with hk; omega))
      obtain ⟨a0, a1, a2, af⟩ := hx4
      have af0 := af 0
      have af1 := af 1
      have af2 := af 2
      go_wp2
      exact bodyPost_ret (v := .tuple #[.slice A2 q.length c2, .agg #[.int .i64 t.1, .int .i64 t.2.1, .int .i64 t.2.2]]) (by simp [results, Try.results17, go_sem, a0, a1, a2]) rfl (fin_add (w4 := w4) A2 q t hq (ho4.mono hB1.size) hB4 (fun b hb e => by have := (ho2.lt b hb).1; omega))
  · have d1 : decide (0 < (q.length : Int)) = false := by simpa using h0
    go_wp2_with fail
    refine (l20Timed_c _ _ w2 hr2 (by omega)).mono ?_
    rintro e w3 ⟨t, rfl, hr3, h3⟩
    have hx3 := hx2.only h3 hgx
    have ho3 := ho2.only h3 (Nat.le_refl _) hneq
    have hB3 := hB2.trans (h3.toBelow hB2.size (fun k hk => by injection hk with hk; omega))
    obtain ⟨a0, a1, a2, af⟩ := hx3
    have af0 := af 0
    have af1 := af 1
    have af2 := af 2
    go_wp2
    exact bodyPost_ret (v := .tuple #[.slice A2 q.length c2, .agg #[.int .i64 t.1, .int .i64 t.2.1, .int .i64 t.2.2]]) (by simp [results, Try.results17, go_sem, a0, a1, a2]) rfl (fin_add (w4 := w3) A2 q t hq (ho3.mono hB1.size) hB3 (fun b hb e => by have := (ho2.lt b hb).1; omega))
end Go.Proofs.Ytaklfalkpkifmaa
