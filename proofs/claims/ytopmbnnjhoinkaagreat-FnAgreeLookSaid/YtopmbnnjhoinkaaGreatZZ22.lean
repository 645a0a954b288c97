/-
  What 'LAc' rests on (texts of this seat put together: NSg).
  Conditions: none.
-/
import Derived.Test.YtopmbnnjhoinkaaGreatZZ21
namespace Go.Proofs.YtopmbnnjhoinkaaGreat
open Go.RowKit Rg Go.Maps
set_option linter.unusedVariables false
set_option linter.unusedSimpArgs false
set_option maxHeartbeats 1000000
def agreeW (t : WorldT) : Bool := okWorld t && decide (GoodL t.2.2 (hcl t.1 t.2.1))
set_option maxRecDepth 100000 in
set_option maxHeartbeats 4000000 in
theorem WorldAgree_c (t : WorldT) (A B : Option Addr) (n c p d : Nat) (lo hi : Nat) (w : World) (h0 : RdN 7 repR w lo hi A n c t.2.1) (h1 : RdN 11 msgR w lo hi B p d t.2.2) (hhi : hi ≤ w.heap.size) :
    Calls Tryz.prog 5 #[.agg #[.int .i64 t.1, .slice A n c, .slice B p d]] w fun e w' => e = .returned (.bool (agreeW t)) ∧ Below w.heap.size w w' := by
  have hmm := @run_makeMap Tryz.prog
  have hB : Below w.heap.size w (w.alloc (.cells #[.int .i64 t.1, .slice A n c, .slice B p d] 26)) := (Below.refl _ _).alloc (Nat.le_refl _) _
  have hl : w.heap.size < (w.alloc (.cells #[.int .i64 t.1, .slice A n c, .slice B p d] 26)).heap.size := by simp
  have hn' := hide h0.len
  have hc1 := h0.cap
  have hc2 := h0.max
  unfold maxLen at hc2
  have x0 : (w.alloc (.cells #[.int .i64 t.1, .slice A n c, .slice B p d] 26)).cell? ⟨w.heap.size, 0, none⟩ = some (.int .i64 t.1) := by simp
  have x1 : (w.alloc (.cells #[.int .i64 t.1, .slice A n c, .slice B p d] 26)).cell? ⟨w.heap.size, 1, none⟩ = some (.slice A n c) := by simp
  have x2 : (w.alloc (.cells #[.int .i64 t.1, .slice A n c, .slice B p d] 26)).cell? ⟨w.heap.size, 2, none⟩ = some (.slice B p d) := by simp
  have g0 := h0.below rep_kept hB hhi
  have g1 := h1.below msg_kept hB hhi
  go_enter Tryz.func5, Tryz.ntmps5
  go_wp2_with fail
  generalize w.alloc (.cells #[.int .i64 t.1, .slice A n c, .slice B p d] 26) = w0 at *
  refine (WorldOk_c t A B n c p d lo hi w0 g0 g1 (Nat.le_trans hhi hB.size)).mono ?_
  rintro e w1 ⟨rfl, hb1⟩
  have hB1 := hB.trans (hb1.mono hB.size)
  have x0 := keepc hb1 x0
  have x1 := keepc hb1 x1
  have x2 := keepc hb1 x2
  have g0 := g0.below rep_kept hb1 (Nat.le_trans hhi hB.size)
  have g1 := g1.below msg_kept hb1 (Nat.le_trans hhi hB.size)
  have hl := Nat.lt_of_lt_of_le hl hb1.size
  have hhi1 : hi ≤ w1.heap.size := Nat.le_trans hhi hB1.size
  clear hb1 hB h0 h1
  cases f1 : okWorld t
  · have hf := hide f1
    go_wp2
    go_ret
    exact ⟨by simp [agreeW, hf.out], hB1⟩
  · have hf := hide f1
    have hre : Hid (okReps t.2.1 ∧ t.2.1.length = 4) := hide (by
      unfold okWorld at f1
      simp only [Bool.and_eq_true, decide_eq_true_eq] at f1
      exact ⟨f1.2.2.2.1, f1.2.1⟩)
    have hn4 : n = 4 := by have := hn'.out; have := hre.out.2; omega
    have hn4' := hide hn4
    clear f1 hn4
    have m0 : (w1.alloc (.map #[] 0)).ownsMap Tryz.prog 3 reqE w1.heap.size 0 (.map []) := World.ownsMap_made w1 Tryz.prog 3 reqE
    have hb0 : Below w1.heap.size w1 (w1.alloc (.map #[] 0)) := (Below.refl _ _).alloc (Nat.le_refl _) _
    have x1m : (w1.alloc (.map #[] 0)).cell? ⟨w.heap.size, 1, none⟩ = some (.slice A n c) := keepc hb0 x1
    go_wp2
    generalize w1.alloc (.map #[] 0) = w2 at *
    go_loopw [17] (fun i wr => ∃ (k j : Nat) (D : DataW Unit), k ≤ n ∧ j ≤ 5 * k ∧ i = .int .i64 k ∧ wr.ownsMap Tryz.prog 3 reqE w1.heap.size j D ∧ MapD D (hcl t.1 (t.2.1.take k)) ∧ Hid (GoodL t.2.2 (hcl t.1 (t.2.1.take k))) ∧ Below w1.heap.size w1 wr) (fun i _ => n - (intOf i).toNat)
    case atStart => exact ⟨0, 0, _, Nat.zero_le _, by omega, rfl, m0, mapD_none, hide (GoodL.nil_ _), hb0⟩
    case round =>
      obtain ⟨k, j, D, hk, hj, rfl, hown, hD, hgo, hbr⟩ := hrel
      have hl2 := hown.lt
      have y0 := keepc hbr x0
      have y1 := keepc hbr x1
      have y2 := keepc hbr x2
      have hzr := hbr.size
      have hlw : w.heap.size < wr.heap.size := Nat.lt_of_lt_of_le hl hzr
      have hD' := hide hD
      clear hD
      have hk4 : k ≤ 4 := by have := hn4'.out; omega
      by_cases hlt : k < n
      · have hlx : k < t.2.1.length := by have := hn'.out; omega
        obtain ⟨b', off, rfl, hlo, hbh⟩ := g0.addr hlx
        obtain ⟨A1, n1, c1, B1, p1, d1, E1, q1, f1, a0, a1, a2, a3, a4, a5, a6, r0, r1, r2⟩ := (g0.below rep_kept hbr hhi1).rep hlx
        have hA := (Below.refl wr.heap.size wr).alloc (Nat.le_refl _) (.cells #[.int .i64 t.2.1[k].1, .int .i64 t.2.1[k].2.1, .bool t.2.1[k].2.2.1, .int .i64 t.2.1[k].2.2.2.1, .slice A1 n1 c1, .slice B1 p1 d1, .slice E1 q1 f1] 31)
        have hbA := hbr.trans (hA.mono hzr)
        have hst := hide (hcl_succ t.1 t.2.1 k hlx)
        cases e1 : (t.2.1[k].1 == t.1)
        · have hdh : Hid (doneH t.1 t.2.1[k] = t.2.1[k].2.2.2.2.2.2) := hide (by unfold doneH; rw [if_neg (by simpa using e1)])
          have hq' := hide r2.len
          have hq1 := r2.cap
          have hq2 := r2.max
          unfold maxLen at hq2
          have hcls := hide (okReps_done hre.out.1 hlx).1
          have hownA := hown.alloc (.cells #[.int .i64 t.2.1[k].1, .int .i64 t.2.1[k].2.1, .bool t.2.1[k].2.2.1, .int .i64 t.2.1[k].2.2.2.1, .slice A1 n1 c1, .slice B1 p1 d1, .slice E1 q1 f1] 31)
          have hq5 : q1 ≤ 5 := by have := okCls_len hcls.out; have := hq'.out; omega
          have r2 := r2.below (flat_kept _) hA (by omega)
          go_wp2
          generalize wr.alloc (.cells #[.int .i64 t.2.1[k].1, .int .i64 t.2.1[k].2.1, .bool t.2.1[k].2.2.1, .int .i64 t.2.1[k].2.2.2.1, .slice A1 n1 c1, .slice B1 p1 d1, .slice E1 q1 f1] 31) = wv at *
          go_loopw [29] (fun i wr2 => ∃ (m j : Nat) (D : DataW Unit), m ≤ q1 ∧ j ≤ 5 * k + m ∧ i = .int .i64 m ∧ wr2.ownsMap Tryz.prog 3 reqE w1.heap.size j D ∧ MapD D (hcl t.1 (t.2.1.take k) ++ t.2.1[k].2.2.2.2.2.2.take m) ∧ Hid (GoodL t.2.2 (hcl t.1 (t.2.1.take k) ++ t.2.1[k].2.2.2.2.2.2.take m)) ∧ Below w1.heap.size w1 wr2 ∧ Below hi wv wr2) (fun i _ => q1 - (intOf i).toNat)
          case atStart => exact ⟨0, j, D, Nat.zero_le _, by omega, rfl, hownA, by simpa using hD'.out, by simpa using hgo, hbA, Below.refl _ _⟩
          case round =>
            obtain ⟨m, j2, D2, hm, hj2, rfl, hown2, hD2, hgo2, hbs, hbi⟩ := hrel
            have hl3 := hown2.lt
            have z0 := keepc hbs x0
            have z1 := keepc hbs x1
            have z2 := keepc hbs x2
            have hzs := hbs.size
            have hlw2 : w.heap.size < wr.heap.size := Nat.lt_of_lt_of_le hl hzs
            have hD2' := hide hD2
            by_cases hltm : m < q1
            · have hmx : m < t.2.1[k].2.2.2.2.2.2.length := by have := hq'.out; omega
              obtain ⟨b2, off2, rfl, hlo2, hbh2⟩ := r2.addr hmx
              obtain ⟨c0, c1', c2', c3, c4, c5, c6⟩ := (r2.below (flat_kept _) hbi (Nat.le_refl _)).claim hmx
              obtain ⟨_, hcok, _⟩ := hcls.out m hmx
              have hrange : 1 ≤ t.2.1[k].2.2.2.2.2.2[m].1 ∧ t.2.1[k].2.2.2.2.2.2[m].1 ≤ 5 := by
                unfold okCl inB at hcok
                simp only [Bool.and_eq_true, decide_eq_true_eq] at hcok
                omega
              clear hcok
              have hkey : keyOf Tryz.prog 3 (.int .i64 t.2.1[k].2.2.2.2.2.2[m].1) = some (key4 t.2.1[k].2.2.2.2.2.2[m].1) := keyOf_int_mk Tryz.underlying3 (WalkArith.wf_i64 (by omega))
              obtain ⟨rv, hr0, hin⟩ := hD2.val t.2.1[k].2.2.2.2.2.2[m].1
              have hnot := hide (fun (e9 : Maps.has D2 (key4 t.2.1[k].2.2.2.2.2.2[m].1) = false) => hD2.not e9)
              have hin' := hide hin
              clear hin hD2
              have hq := fun W => run_neq_req rv t.2.1[k].2.2.2.2.2.2[m].2.2 W
              have hqz := fun W => run_neq_req t.2.1[k].2.2.2.2.2.2[m].2.2 (0, 0, 0, 0, 0) W
              dsimp only at hqz
              have htake : Hid (t.2.1[k].2.2.2.2.2.2.take (m + 1) = t.2.1[k].2.2.2.2.2.2.take m ++ [t.2.1[k].2.2.2.2.2.2[m]]) := hide (List.take_succ_eq_append_getElem hmx)
              have hmem : Hid (∀ c ∈ hcl t.1 (t.2.1.take k) ++ t.2.1[k].2.2.2.2.2.2.take (m + 1), c ∈ hcl t.1 t.2.1) := hide (by
                intro c hc
                rcases List.mem_append.1 hc with hc | hc
                · exact List.mem_flatMap.2 (by obtain ⟨r, hr, hx⟩ := List.mem_flatMap.1 hc; exact ⟨r, List.mem_of_mem_take hr, hx⟩)
                · exact List.mem_flatMap.2 ⟨t.2.1[k], List.getElem_mem hlx, by rw [hdh.out]; exact List.mem_of_mem_take hc⟩)
              have hlast : Hid (t.2.1[k].2.2.2.2.2.2[m] ∈ hcl t.1 (t.2.1.take k) ++ t.2.1[k].2.2.2.2.2.2.take (m + 1)) := hide (List.mem_append_right _ (by rw [htake.out]; exact List.mem_append_right _ (List.mem_singleton_self _)))
              have hold : Hid (∀ c ∈ hcl t.1 (t.2.1.take k) ++ t.2.1[k].2.2.2.2.2.2.take m, c ∈ hcl t.1 (t.2.1.take k) ++ t.2.1[k].2.2.2.2.2.2.take (m + 1)) := hide (by
                intro c hc
                rw [htake.out, ← List.append_assoc]
                exact List.mem_append_left _ hc)
              have hAc := (Below.refl wr.heap.size wr).alloc (Nat.le_refl _) (.cells #[.int .i64 t.2.1[k].2.2.2.2.2.2[m].1, .int .i64 t.2.1[k].2.2.2.2.2.2[m].2.1, .int .i64 t.2.1[k].2.2.2.2.2.2[m].2.2.1, .int .i64 t.2.1[k].2.2.2.2.2.2[m].2.2.2.1, .int .i64 t.2.1[k].2.2.2.2.2.2[m].2.2.2.2.1, .int .i64 t.2.1[k].2.2.2.2.2.2[m].2.2.2.2.2.1, .int .i64 t.2.1[k].2.2.2.2.2.2[m].2.2.2.2.2.2] 41)
              have hAq := hAc.alloc (by simp) (.cells #[.int .i64 rv.1, .int .i64 rv.2.1, .int .i64 rv.2.2.1, .int .i64 rv.2.2.2.1, .int .i64 rv.2.2.2.2] 39)
              have hbq := hbs.trans (hAq.mono hzs)
              have hiq := hbi.trans (hAq.mono (Nat.le_trans hhi1 hzs))
              have hownq := (hown2.alloc (.cells #[.int .i64 t.2.1[k].2.2.2.2.2.2[m].1, .int .i64 t.2.1[k].2.2.2.2.2.2[m].2.1, .int .i64 t.2.1[k].2.2.2.2.2.2[m].2.2.1, .int .i64 t.2.1[k].2.2.2.2.2.2[m].2.2.2.1, .int .i64 t.2.1[k].2.2.2.2.2.2[m].2.2.2.2.1, .int .i64 t.2.1[k].2.2.2.2.2.2[m].2.2.2.2.2.1, .int .i64 t.2.1[k].2.2.2.2.2.2[m].2.2.2.2.2.2] 41)).alloc (.cells #[.int .i64 rv.1, .int .i64 rv.2.1, .int .i64 rv.2.2.1, .int .i64 rv.2.2.2.1, .int .i64 rv.2.2.2.2] 39)
              have hlc : Hid ((wr.alloc (.cells #[.int .i64 t.2.1[k].2.2.2.2.2.2[m].1, .int .i64 t.2.1[k].2.2.2.2.2.2[m].2.1, .int .i64 t.2.1[k].2.2.2.2.2.2[m].2.2.1, .int .i64 t.2.1[k].2.2.2.2.2.2[m].2.2.2.1, .int .i64 t.2.1[k].2.2.2.2.2.2[m].2.2.2.2.1, .int .i64 t.2.1[k].2.2.2.2.2.2[m].2.2.2.2.2.1, .int .i64 t.2.1[k].2.2.2.2.2.2[m].2.2.2.2.2.2] 41)).heap.size = wr.heap.size + 1) := hide (by simp)
              cases e2 : Maps.has D2 (key4 t.2.1[k].2.2.2.2.2.2[m].1)
              · have hfr := hide (hnot.out e2)
                have hcons : Hid (∀ d ∈ hcl t.1 (t.2.1.take k) ++ t.2.1[k].2.2.2.2.2.2.take m, d.1 = t.2.1[k].2.2.2.2.2.2[m].1 → d.2.2 = t.2.1[k].2.2.2.2.2.2[m].2.2) := hide (fun d hd h => absurd h (hfr.out d hd))
                have hmd : Hid (MapD (D2.put (key4 t.2.1[k].2.2.2.2.2.2[m].1) (reqD t.2.1[k].2.2.2.2.2.2[m].2.2)) (hcl t.1 (t.2.1.take k) ++ t.2.1[k].2.2.2.2.2.2.take (m + 1))) := hide (by rw [htake.out, ← List.append_assoc]; exact hD2'.out.put _ hcons.out)
                go_wp2_with (first
                  | (at_lookup; refine wpList_lookup_req _ rfl _ _ rfl w1.heap.size j2 D2 rfl (hown2.alloc _) _ _ rfl hkey rv hr0 ?_; rw [e2])
                  | ((at_mapUpdate; refine wpList_mapUpdate_own _ rfl _ _ _ 37 rfl 3 39 keyInt' Tryz.underlying37 reqE w1.heap.size j2 D2 rfl hownq (by unfold maxLen; omega) _ _ _ rfl rfl hkey _ [] (reqE_mk t.2.1[k].2.2.2.2.2.2[m].2.2) ?_; intro w3 hown3 hgrow3); refine Hid.out ?_)
                  | fail)
                refine hide ?_
                have hb3 := hbq.grown hgrow3 hbq.size (fun jj hjj => by cases hjj; exact Nat.le_refl _)
                have hi3 := hiq.grown hgrow3 (Nat.le_trans hhi1 hbq.size) (fun jj hjj => by cases hjj; exact hhi1)
                have kb : w3.heap[wr.heap.size]? = ((wr.alloc (.cells #[.int .i64 t.2.1[k].2.2.2.2.2.2[m].1, .int .i64 t.2.1[k].2.2.2.2.2.2[m].2.1, .int .i64 t.2.1[k].2.2.2.2.2.2[m].2.2.1, .int .i64 t.2.1[k].2.2.2.2.2.2[m].2.2.2.1, .int .i64 t.2.1[k].2.2.2.2.2.2[m].2.2.2.2.1, .int .i64 t.2.1[k].2.2.2.2.2.2[m].2.2.2.2.2.1, .int .i64 t.2.1[k].2.2.2.2.2.2[m].2.2.2.2.2.2] 41)).alloc (.cells #[.int .i64 rv.1, .int .i64 rv.2.1, .int .i64 rv.2.2.1, .int .i64 rv.2.2.2.1, .int .i64 rv.2.2.2.2] 39)).heap[wr.heap.size]? := hgrow3.block _ (by simp; omega) (by simp; omega)
                have z0 := keepc hb3 x0
                have z1 := keepc hb3 x1
                have z2 := keepc hb3 x2
                have p0 : w3.cell? ⟨wr.heap.size, 0, none⟩ = some (.int .i64 t.2.1[k].2.2.2.2.2.2[m].1) := (World.cell?_of_block kb).trans (keepc ((Below.refl (wr.alloc (.cells #[.int .i64 t.2.1[k].2.2.2.2.2.2[m].1, .int .i64 t.2.1[k].2.2.2.2.2.2[m].2.1, .int .i64 t.2.1[k].2.2.2.2.2.2[m].2.2.1, .int .i64 t.2.1[k].2.2.2.2.2.2[m].2.2.2.1, .int .i64 t.2.1[k].2.2.2.2.2.2[m].2.2.2.2.1, .int .i64 t.2.1[k].2.2.2.2.2.2[m].2.2.2.2.2.1, .int .i64 t.2.1[k].2.2.2.2.2.2[m].2.2.2.2.2.2] 41)).heap.size (wr.alloc (.cells #[.int .i64 t.2.1[k].2.2.2.2.2.2[m].1, .int .i64 t.2.1[k].2.2.2.2.2.2[m].2.1, .int .i64 t.2.1[k].2.2.2.2.2.2[m].2.2.1, .int .i64 t.2.1[k].2.2.2.2.2.2[m].2.2.2.1, .int .i64 t.2.1[k].2.2.2.2.2.2[m].2.2.2.2.1, .int .i64 t.2.1[k].2.2.2.2.2.2[m].2.2.2.2.2.1, .int .i64 t.2.1[k].2.2.2.2.2.2[m].2.2.2.2.2.2] 41))).alloc (Nat.le_refl _) (.cells #[.int .i64 rv.1, .int .i64 rv.2.1, .int .i64 rv.2.2.1, .int .i64 rv.2.2.2.1, .int .i64 rv.2.2.2.2] 39)) (by simp))
                have p1 : w3.cell? ⟨wr.heap.size, 1, none⟩ = some (.int .i64 t.2.1[k].2.2.2.2.2.2[m].2.1) := (World.cell?_of_block kb).trans (keepc ((Below.refl (wr.alloc (.cells #[.int .i64 t.2.1[k].2.2.2.2.2.2[m].1, .int .i64 t.2.1[k].2.2.2.2.2.2[m].2.1, .int .i64 t.2.1[k].2.2.2.2.2.2[m].2.2.1, .int .i64 t.2.1[k].2.2.2.2.2.2[m].2.2.2.1, .int .i64 t.2.1[k].2.2.2.2.2.2[m].2.2.2.2.1, .int .i64 t.2.1[k].2.2.2.2.2.2[m].2.2.2.2.2.1, .int .i64 t.2.1[k].2.2.2.2.2.2[m].2.2.2.2.2.2] 41)).heap.size (wr.alloc (.cells #[.int .i64 t.2.1[k].2.2.2.2.2.2[m].1, .int .i64 t.2.1[k].2.2.2.2.2.2[m].2.1, .int .i64 t.2.1[k].2.2.2.2.2.2[m].2.2.1, .int .i64 t.2.1[k].2.2.2.2.2.2[m].2.2.2.1, .int .i64 t.2.1[k].2.2.2.2.2.2[m].2.2.2.2.1, .int .i64 t.2.1[k].2.2.2.2.2.2[m].2.2.2.2.2.1, .int .i64 t.2.1[k].2.2.2.2.2.2[m].2.2.2.2.2.2] 41))).alloc (Nat.le_refl _) (.cells #[.int .i64 rv.1, .int .i64 rv.2.1, .int .i64 rv.2.2.1, .int .i64 rv.2.2.2.1, .int .i64 rv.2.2.2.2] 39)) (by simp))
                have p2 : w3.cell? ⟨wr.heap.size, 2, none⟩ = some (.int .i64 t.2.1[k].2.2.2.2.2.2[m].2.2.1) := (World.cell?_of_block kb).trans (keepc ((Below.refl (wr.alloc (.cells #[.int .i64 t.2.1[k].2.2.2.2.2.2[m].1, .int .i64 t.2.1[k].2.2.2.2.2.2[m].2.1, .int .i64 t.2.1[k].2.2.2.2.2.2[m].2.2.1, .int .i64 t.2.1[k].2.2.2.2.2.2[m].2.2.2.1, .int .i64 t.2.1[k].2.2.2.2.2.2[m].2.2.2.2.1, .int .i64 t.2.1[k].2.2.2.2.2.2[m].2.2.2.2.2.1, .int .i64 t.2.1[k].2.2.2.2.2.2[m].2.2.2.2.2.2] 41)).heap.size (wr.alloc (.cells #[.int .i64 t.2.1[k].2.2.2.2.2.2[m].1, .int .i64 t.2.1[k].2.2.2.2.2.2[m].2.1, .int .i64 t.2.1[k].2.2.2.2.2.2[m].2.2.1, .int .i64 t.2.1[k].2.2.2.2.2.2[m].2.2.2.1, .int .i64 t.2.1[k].2.2.2.2.2.2[m].2.2.2.2.1, .int .i64 t.2.1[k].2.2.2.2.2.2[m].2.2.2.2.2.1, .int .i64 t.2.1[k].2.2.2.2.2.2[m].2.2.2.2.2.2] 41))).alloc (Nat.le_refl _) (.cells #[.int .i64 rv.1, .int .i64 rv.2.1, .int .i64 rv.2.2.1, .int .i64 rv.2.2.2.1, .int .i64 rv.2.2.2.2] 39)) (by simp))
                have p3 : w3.cell? ⟨wr.heap.size, 3, none⟩ = some (.int .i64 t.2.1[k].2.2.2.2.2.2[m].2.2.2.1) := (World.cell?_of_block kb).trans (keepc ((Below.refl (wr.alloc (.cells #[.int .i64 t.2.1[k].2.2.2.2.2.2[m].1, .int .i64 t.2.1[k].2.2.2.2.2.2[m].2.1, .int .i64 t.2.1[k].2.2.2.2.2.2[m].2.2.1, .int .i64 t.2.1[k].2.2.2.2.2.2[m].2.2.2.1, .int .i64 t.2.1[k].2.2.2.2.2.2[m].2.2.2.2.1, .int .i64 t.2.1[k].2.2.2.2.2.2[m].2.2.2.2.2.1, .int .i64 t.2.1[k].2.2.2.2.2.2[m].2.2.2.2.2.2] 41)).heap.size (wr.alloc (.cells #[.int .i64 t.2.1[k].2.2.2.2.2.2[m].1, .int .i64 t.2.1[k].2.2.2.2.2.2[m].2.1, .int .i64 t.2.1[k].2.2.2.2.2.2[m].2.2.1, .int .i64 t.2.1[k].2.2.2.2.2.2[m].2.2.2.1, .int .i64 t.2.1[k].2.2.2.2.2.2[m].2.2.2.2.1, .int .i64 t.2.1[k].2.2.2.2.2.2[m].2.2.2.2.2.1, .int .i64 t.2.1[k].2.2.2.2.2.2[m].2.2.2.2.2.2] 41))).alloc (Nat.le_refl _) (.cells #[.int .i64 rv.1, .int .i64 rv.2.1, .int .i64 rv.2.2.1, .int .i64 rv.2.2.2.1, .int .i64 rv.2.2.2.2] 39)) (by simp))
                have p4 : w3.cell? ⟨wr.heap.size, 4, none⟩ = some (.int .i64 t.2.1[k].2.2.2.2.2.2[m].2.2.2.2.1) := (World.cell?_of_block kb).trans (keepc ((Below.refl (wr.alloc (.cells #[.int .i64 t.2.1[k].2.2.2.2.2.2[m].1, .int .i64 t.2.1[k].2.2.2.2.2.2[m].2.1, .int .i64 t.2.1[k].2.2.2.2.2.2[m].2.2.1, .int .i64 t.2.1[k].2.2.2.2.2.2[m].2.2.2.1, .int .i64 t.2.1[k].2.2.2.2.2.2[m].2.2.2.2.1, .int .i64 t.2.1[k].2.2.2.2.2.2[m].2.2.2.2.2.1, .int .i64 t.2.1[k].2.2.2.2.2.2[m].2.2.2.2.2.2] 41)).heap.size (wr.alloc (.cells #[.int .i64 t.2.1[k].2.2.2.2.2.2[m].1, .int .i64 t.2.1[k].2.2.2.2.2.2[m].2.1, .int .i64 t.2.1[k].2.2.2.2.2.2[m].2.2.1, .int .i64 t.2.1[k].2.2.2.2.2.2[m].2.2.2.1, .int .i64 t.2.1[k].2.2.2.2.2.2[m].2.2.2.2.1, .int .i64 t.2.1[k].2.2.2.2.2.2[m].2.2.2.2.2.1, .int .i64 t.2.1[k].2.2.2.2.2.2[m].2.2.2.2.2.2] 41))).alloc (Nat.le_refl _) (.cells #[.int .i64 rv.1, .int .i64 rv.2.1, .int .i64 rv.2.2.1, .int .i64 rv.2.2.2.1, .int .i64 rv.2.2.2.2] 39)) (by simp))
                have p5 : w3.cell? ⟨wr.heap.size, 5, none⟩ = some (.int .i64 t.2.1[k].2.2.2.2.2.2[m].2.2.2.2.2.1) := (World.cell?_of_block kb).trans (keepc ((Below.refl (wr.alloc (.cells #[.int .i64 t.2.1[k].2.2.2.2.2.2[m].1, .int .i64 t.2.1[k].2.2.2.2.2.2[m].2.1, .int .i64 t.2.1[k].2.2.2.2.2.2[m].2.2.1, .int .i64 t.2.1[k].2.2.2.2.2.2[m].2.2.2.1, .int .i64 t.2.1[k].2.2.2.2.2.2[m].2.2.2.2.1, .int .i64 t.2.1[k].2.2.2.2.2.2[m].2.2.2.2.2.1, .int .i64 t.2.1[k].2.2.2.2.2.2[m].2.2.2.2.2.2] 41)).heap.size (wr.alloc (.cells #[.int .i64 t.2.1[k].2.2.2.2.2.2[m].1, .int .i64 t.2.1[k].2.2.2.2.2.2[m].2.1, .int .i64 t.2.1[k].2.2.2.2.2.2[m].2.2.1, .int .i64 t.2.1[k].2.2.2.2.2.2[m].2.2.2.1, .int .i64 t.2.1[k].2.2.2.2.2.2[m].2.2.2.2.1, .int .i64 t.2.1[k].2.2.2.2.2.2[m].2.2.2.2.2.1, .int .i64 t.2.1[k].2.2.2.2.2.2[m].2.2.2.2.2.2] 41))).alloc (Nat.le_refl _) (.cells #[.int .i64 rv.1, .int .i64 rv.2.1, .int .i64 rv.2.2.1, .int .i64 rv.2.2.2.1, .int .i64 rv.2.2.2.2] 39)) (by simp))
                have p6 : w3.cell? ⟨wr.heap.size, 6, none⟩ = some (.int .i64 t.2.1[k].2.2.2.2.2.2[m].2.2.2.2.2.2) := (World.cell?_of_block kb).trans (keepc ((Below.refl (wr.alloc (.cells #[.int .i64 t.2.1[k].2.2.2.2.2.2[m].1, .int .i64 t.2.1[k].2.2.2.2.2.2[m].2.1, .int .i64 t.2.1[k].2.2.2.2.2.2[m].2.2.1, .int .i64 t.2.1[k].2.2.2.2.2.2[m].2.2.2.1, .int .i64 t.2.1[k].2.2.2.2.2.2[m].2.2.2.2.1, .int .i64 t.2.1[k].2.2.2.2.2.2[m].2.2.2.2.2.1, .int .i64 t.2.1[k].2.2.2.2.2.2[m].2.2.2.2.2.2] 41)).heap.size (wr.alloc (.cells #[.int .i64 t.2.1[k].2.2.2.2.2.2[m].1, .int .i64 t.2.1[k].2.2.2.2.2.2[m].2.1, .int .i64 t.2.1[k].2.2.2.2.2.2[m].2.2.1, .int .i64 t.2.1[k].2.2.2.2.2.2[m].2.2.2.1, .int .i64 t.2.1[k].2.2.2.2.2.2[m].2.2.2.2.1, .int .i64 t.2.1[k].2.2.2.2.2.2[m].2.2.2.2.2.1, .int .i64 t.2.1[k].2.2.2.2.2.2[m].2.2.2.2.2.2] 41))).alloc (Nat.le_refl _) (.cells #[.int .i64 rv.1, .int .i64 rv.2.1, .int .i64 rv.2.2.1, .int .i64 rv.2.2.2.1, .int .i64 rv.2.2.2.2] 39)) (by simp))
                have g3 := g1.below msg_kept hb3 hhi1
                have hz3 := hb3.size
                clear hgrow3 kb c0 c1' c2' c3 c4 c5 c6 hownq hAc hAq hown2
                cases e4 : decide (t.2.1[k].2.2.2.2.2.2[m].2.2 = (0, 0, 0, 0, 0))
                · have e4' := hide e4
                  simp only [e4] at hqz
                  have hsh := hide (SaidHas_c t.2.2 (askM t.2.1[k].2.2.2.2.2.2[m].2.2) B p d lo hi 0 0 none none 0 0 0 0 w3 g3 (RdN.nil_ _ _ _ _ _ _ _ (by simp [maxLen])) (RdN.nil_ _ _ _ _ _ _ _ (by simp [maxLen])) (by omega) (Nat.zero_le _))
                  go_wp2_with fail
                  refine hsh.out.mono ?_
                  rintro e w4 ⟨rfl, hb4⟩
                  have hb5 := hb3.trans (hb4.mono hz3)
                  have hi5 := hi3.trans (hb4.mono (Nat.le_trans hhi1 hz3))
                  have hown5 := hown3.kept (row := none) ⟨hb4.os, hb4.tape, hb4.output, hb4.size, fun i h _ => hb4.block i h⟩ (by simp)
                  cases e5 : decide (askM t.2.1[k].2.2.2.2.2.2[m].2.2 ∈ t.2.2)
                  · have hbad : Hid (decide (GoodL t.2.2 (hcl t.1 t.2.1)) = false) := hide (by
                      simp only [decide_eq_false_iff_not]
                      intro hg
                      rcases hg.1 t.2.1[k].2.2.2.2.2.2[m] (hmem.out _ hlast.out) with h | h
                      · exact of_decide_eq_false e4 h
                      · exact of_decide_eq_false e5 h)
                    go_wp2
                    go_ret
                    exact ⟨by simp [agreeW, hbad.out], hB1.trans (hb5.mono hB1.size)⟩
                  · have e5' := hide e5
                    go_wp2
                    go_roundw
                    case rel => exact ⟨m + 1, j2 + 1, _, by omega, by omega, by go_num, hown5, hmd.out, hide (by rw [htake.out, ← List.append_assoc]; exact GoodL.snoc hgo2.out (.inr (of_decide_eq_true e5'.out)) hcons.out), hb5, hi5⟩
                    case measure => simp [intOf]; omega
                · have e4' := hide e4
                  simp only [e4] at hqz
                  go_wp2
                  go_roundw
                  case rel => exact ⟨m + 1, j2 + 1, _, by omega, by omega, by go_num, hown3, hmd.out, hide (by rw [htake.out, ← List.append_assoc]; exact GoodL.snoc hgo2.out (.inl (of_decide_eq_true e4'.out)) hcons.out), hb3, hi3⟩
                  case measure => simp [intOf]; omega
              · have hin2 := hide (hin'.out e2)
                cases e3 : decide (rv = t.2.1[k].2.2.2.2.2.2[m].2.2)
                · have hbad : Hid (decide (GoodL t.2.2 (hcl t.1 t.2.1)) = false) := hide (by
                    simp only [decide_eq_false_iff_not]
                    intro hg
                    obtain ⟨d, hd, h1, h2⟩ := hin2.out
                    have := hg.2 d (hmem.out d (hold.out d hd)) t.2.1[k].2.2.2.2.2.2[m] (hmem.out _ hlast.out) h1
                    rw [h2] at this
                    exact of_decide_eq_false e3 this)
                  simp only [e3] at hq
                  go_wp2_with (first
                    | (at_lookup; refine wpList_lookup_req _ rfl _ _ rfl w1.heap.size j2 D2 rfl (hown2.alloc _) _ _ rfl hkey rv hr0 ?_; rw [e2])
                    | fail)
                  go_ret
                  exact ⟨by simp [agreeW, hbad.out], hB1.trans (hbq.mono hB1.size)⟩
                · have hcons : Hid (∀ d ∈ hcl t.1 (t.2.1.take k) ++ t.2.1[k].2.2.2.2.2.2.take m, d.1 = t.2.1[k].2.2.2.2.2.2[m].1 → d.2.2 = t.2.1[k].2.2.2.2.2.2[m].2.2) := hide (fun d hd h => by
                    obtain ⟨d2, hd2, h1, h2⟩ := hin2.out
                    rw [hgo2.out.2 d hd d2 hd2 (h.trans h1.symm), h2]
                    exact of_decide_eq_true e3)
                  simp only [e3] at hq
                  have hmd : Hid (MapD (D2.put (key4 t.2.1[k].2.2.2.2.2.2[m].1) (reqD t.2.1[k].2.2.2.2.2.2[m].2.2)) (hcl t.1 (t.2.1.take k) ++ t.2.1[k].2.2.2.2.2.2.take (m + 1))) := hide (by rw [htake.out, ← List.append_assoc]; exact hD2'.out.put _ hcons.out)
                  go_wp2_with (first
                    | (at_lookup; refine wpList_lookup_req _ rfl _ _ rfl w1.heap.size j2 D2 rfl (hown2.alloc _) _ _ rfl hkey rv hr0 ?_; rw [e2])
                    | ((at_mapUpdate; refine wpList_mapUpdate_own _ rfl _ _ _ 37 rfl 3 39 keyInt' Tryz.underlying37 reqE w1.heap.size j2 D2 rfl hownq (by unfold maxLen; omega) _ _ _ rfl rfl hkey _ [] (reqE_mk t.2.1[k].2.2.2.2.2.2[m].2.2) ?_; intro w3 hown3 hgrow3); refine Hid.out ?_)
                    | fail)
                  refine hide ?_
                  have hb3 := hbq.grown hgrow3 hbq.size (fun jj hjj => by cases hjj; exact Nat.le_refl _)
                  have hi3 := hiq.grown hgrow3 (Nat.le_trans hhi1 hbq.size) (fun jj hjj => by cases hjj; exact hhi1)
                  have kb : w3.heap[wr.heap.size]? = ((wr.alloc (.cells #[.int .i64 t.2.1[k].2.2.2.2.2.2[m].1, .int .i64 t.2.1[k].2.2.2.2.2.2[m].2.1, .int .i64 t.2.1[k].2.2.2.2.2.2[m].2.2.1, .int .i64 t.2.1[k].2.2.2.2.2.2[m].2.2.2.1, .int .i64 t.2.1[k].2.2.2.2.2.2[m].2.2.2.2.1, .int .i64 t.2.1[k].2.2.2.2.2.2[m].2.2.2.2.2.1, .int .i64 t.2.1[k].2.2.2.2.2.2[m].2.2.2.2.2.2] 41)).alloc (.cells #[.int .i64 rv.1, .int .i64 rv.2.1, .int .i64 rv.2.2.1, .int .i64 rv.2.2.2.1, .int .i64 rv.2.2.2.2] 39)).heap[wr.heap.size]? := hgrow3.block _ (by simp; omega) (by simp; omega)
                  have z0 := keepc hb3 x0
                  have z1 := keepc hb3 x1
                  have z2 := keepc hb3 x2
                  have p0 : w3.cell? ⟨wr.heap.size, 0, none⟩ = some (.int .i64 t.2.1[k].2.2.2.2.2.2[m].1) := (World.cell?_of_block kb).trans (keepc ((Below.refl (wr.alloc (.cells #[.int .i64 t.2.1[k].2.2.2.2.2.2[m].1, .int .i64 t.2.1[k].2.2.2.2.2.2[m].2.1, .int .i64 t.2.1[k].2.2.2.2.2.2[m].2.2.1, .int .i64 t.2.1[k].2.2.2.2.2.2[m].2.2.2.1, .int .i64 t.2.1[k].2.2.2.2.2.2[m].2.2.2.2.1, .int .i64 t.2.1[k].2.2.2.2.2.2[m].2.2.2.2.2.1, .int .i64 t.2.1[k].2.2.2.2.2.2[m].2.2.2.2.2.2] 41)).heap.size (wr.alloc (.cells #[.int .i64 t.2.1[k].2.2.2.2.2.2[m].1, .int .i64 t.2.1[k].2.2.2.2.2.2[m].2.1, .int .i64 t.2.1[k].2.2.2.2.2.2[m].2.2.1, .int .i64 t.2.1[k].2.2.2.2.2.2[m].2.2.2.1, .int .i64 t.2.1[k].2.2.2.2.2.2[m].2.2.2.2.1, .int .i64 t.2.1[k].2.2.2.2.2.2[m].2.2.2.2.2.1, .int .i64 t.2.1[k].2.2.2.2.2.2[m].2.2.2.2.2.2] 41))).alloc (Nat.le_refl _) (.cells #[.int .i64 rv.1, .int .i64 rv.2.1, .int .i64 rv.2.2.1, .int .i64 rv.2.2.2.1, .int .i64 rv.2.2.2.2] 39)) (by simp))
                  have p1 : w3.cell? ⟨wr.heap.size, 1, none⟩ = some (.int .i64 t.2.1[k].2.2.2.2.2.2[m].2.1) := (World.cell?_of_block kb).trans (keepc ((Below.refl (wr.alloc (.cells #[.int .i64 t.2.1[k].2.2.2.2.2.2[m].1, .int .i64 t.2.1[k].2.2.2.2.2.2[m].2.1, .int .i64 t.2.1[k].2.2.2.2.2.2[m].2.2.1, .int .i64 t.2.1[k].2.2.2.2.2.2[m].2.2.2.1, .int .i64 t.2.1[k].2.2.2.2.2.2[m].2.2.2.2.1, .int .i64 t.2.1[k].2.2.2.2.2.2[m].2.2.2.2.2.1, .int .i64 t.2.1[k].2.2.2.2.2.2[m].2.2.2.2.2.2] 41)).heap.size (wr.alloc (.cells #[.int .i64 t.2.1[k].2.2.2.2.2.2[m].1, .int .i64 t.2.1[k].2.2.2.2.2.2[m].2.1, .int .i64 t.2.1[k].2.2.2.2.2.2[m].2.2.1, .int .i64 t.2.1[k].2.2.2.2.2.2[m].2.2.2.1, .int .i64 t.2.1[k].2.2.2.2.2.2[m].2.2.2.2.1, .int .i64 t.2.1[k].2.2.2.2.2.2[m].2.2.2.2.2.1, .int .i64 t.2.1[k].2.2.2.2.2.2[m].2.2.2.2.2.2] 41))).alloc (Nat.le_refl _) (.cells #[.int .i64 rv.1, .int .i64 rv.2.1, .int .i64 rv.2.2.1, .int .i64 rv.2.2.2.1, .int .i64 rv.2.2.2.2] 39)) (by simp))
                  have p2 : w3.cell? ⟨wr.heap.size, 2, none⟩ = some (.int .i64 t.2.1[k].2.2.2.2.2.2[m].2.2.1) := (World.cell?_of_block kb).trans (keepc ((Below.refl (wr.alloc (.cells #[.int .i64 t.2.1[k].2.2.2.2.2.2[m].1, .int .i64 t.2.1[k].2.2.2.2.2.2[m].2.1, .int .i64 t.2.1[k].2.2.2.2.2.2[m].2.2.1, .int .i64 t.2.1[k].2.2.2.2.2.2[m].2.2.2.1, .int .i64 t.2.1[k].2.2.2.2.2.2[m].2.2.2.2.1, .int .i64 t.2.1[k].2.2.2.2.2.2[m].2.2.2.2.2.1, .int .i64 t.2.1[k].2.2.2.2.2.2[m].2.2.2.2.2.2] 41)).heap.size (wr.alloc (.cells #[.int .i64 t.2.1[k].2.2.2.2.2.2[m].1, .int .i64 t.2.1[k].2.2.2.2.2.2[m].2.1, .int .i64 t.2.1[k].2.2.2.2.2.2[m].2.2.1, .int .i64 t.2.1[k].2.2.2.2.2.2[m].2.2.2.1, .int .i64 t.2.1[k].2.2.2.2.2.2[m].2.2.2.2.1, .int .i64 t.2.1[k].2.2.2.2.2.2[m].2.2.2.2.2.1, .int .i64 t.2.1[k].2.2.2.2.2.2[m].2.2.2.2.2.2] 41))).alloc (Nat.le_refl _) (.cells #[.int .i64 rv.1, .int .i64 rv.2.1, .int .i64 rv.2.2.1, .int .i64 rv.2.2.2.1, .int .i64 rv.2.2.2.2] 39)) (by simp))
                  have p3 : w3.cell? ⟨wr.heap.size, 3, none⟩ = some (.int .i64 t.2.1[k].2.2.2.2.2.2[m].2.2.2.1) := (World.cell?_of_block kb).trans (keepc ((Below.refl (wr.alloc (.cells #[.int .i64 t.2.1[k].2.2.2.2.2.2[m].1, .int .i64 t.2.1[k].2.2.2.2.2.2[m].2.1, .int .i64 t.2.1[k].2.2.2.2.2.2[m].2.2.1, .int .i64 t.2.1[k].2.2.2.2.2.2[m].2.2.2.1, .int .i64 t.2.1[k].2.2.2.2.2.2[m].2.2.2.2.1, .int .i64 t.2.1[k].2.2.2.2.2.2[m].2.2.2.2.2.1, .int .i64 t.2.1[k].2.2.2.2.2.2[m].2.2.2.2.2.2] 41)).heap.size (wr.alloc (.cells #[.int .i64 t.2.1[k].2.2.2.2.2.2[m].1, .int .i64 t.2.1[k].2.2.2.2.2.2[m].2.1, .int .i64 t.2.1[k].2.2.2.2.2.2[m].2.2.1, .int .i64 t.2.1[k].2.2.2.2.2.2[m].2.2.2.1, .int .i64 t.2.1[k].2.2.2.2.2.2[m].2.2.2.2.1, .int .i64 t.2.1[k].2.2.2.2.2.2[m].2.2.2.2.2.1, .int .i64 t.2.1[k].2.2.2.2.2.2[m].2.2.2.2.2.2] 41))).alloc (Nat.le_refl _) (.cells #[.int .i64 rv.1, .int .i64 rv.2.1, .int .i64 rv.2.2.1, .int .i64 rv.2.2.2.1, .int .i64 rv.2.2.2.2] 39)) (by simp))
                  have p4 : w3.cell? ⟨wr.heap.size, 4, none⟩ = some (.int .i64 t.2.1[k].2.2.2.2.2.2[m].2.2.2.2.1) := (World.cell?_of_block kb).trans (keepc ((Below.refl (wr.alloc (.cells #[.int .i64 t.2.1[k].2.2.2.2.2.2[m].1, .int .i64 t.2.1[k].2.2.2.2.2.2[m].2.1, .int .i64 t.2.1[k].2.2.2.2.2.2[m].2.2.1, .int .i64 t.2.1[k].2.2.2.2.2.2[m].2.2.2.1, .int .i64 t.2.1[k].2.2.2.2.2.2[m].2.2.2.2.1, .int .i64 t.2.1[k].2.2.2.2.2.2[m].2.2.2.2.2.1, .int .i64 t.2.1[k].2.2.2.2.2.2[m].2.2.2.2.2.2] 41)).heap.size (wr.alloc (.cells #[.int .i64 t.2.1[k].2.2.2.2.2.2[m].1, .int .i64 t.2.1[k].2.2.2.2.2.2[m].2.1, .int .i64 t.2.1[k].2.2.2.2.2.2[m].2.2.1, .int .i64 t.2.1[k].2.2.2.2.2.2[m].2.2.2.1, .int .i64 t.2.1[k].2.2.2.2.2.2[m].2.2.2.2.1, .int .i64 t.2.1[k].2.2.2.2.2.2[m].2.2.2.2.2.1, .int .i64 t.2.1[k].2.2.2.2.2.2[m].2.2.2.2.2.2] 41))).alloc (Nat.le_refl _) (.cells #[.int .i64 rv.1, .int .i64 rv.2.1, .int .i64 rv.2.2.1, .int .i64 rv.2.2.2.1, .int .i64 rv.2.2.2.2] 39)) (by simp))
                  have p5 : w3.cell? ⟨wr.heap.size, 5, none⟩ = some (.int .i64 t.2.1[k].2.2.2.2.2.2[m].2.2.2.2.2.1) := (World.cell?_of_block kb).trans (keepc ((Below.refl (wr.alloc (.cells #[.int .i64 t.2.1[k].2.2.2.2.2.2[m].1, .int .i64 t.2.1[k].2.2.2.2.2.2[m].2.1, .int .i64 t.2.1[k].2.2.2.2.2.2[m].2.2.1, .int .i64 t.2.1[k].2.2.2.2.2.2[m].2.2.2.1, .int .i64 t.2.1[k].2.2.2.2.2.2[m].2.2.2.2.1, .int .i64 t.2.1[k].2.2.2.2.2.2[m].2.2.2.2.2.1, .int .i64 t.2.1[k].2.2.2.2.2.2[m].2.2.2.2.2.2] 41)).heap.size (wr.alloc (.cells #[.int .i64 t.2.1[k].2.2.2.2.2.2[m].1, .int .i64 t.2.1[k].2.2.2.2.2.2[m].2.1, .int .i64 t.2.1[k].2.2.2.2.2.2[m].2.2.1, .int .i64 t.2.1[k].2.2.2.2.2.2[m].2.2.2.1, .int .i64 t.2.1[k].2.2.2.2.2.2[m].2.2.2.2.1, .int .i64 t.2.1[k].2.2.2.2.2.2[m].2.2.2.2.2.1, .int .i64 t.2.1[k].2.2.2.2.2.2[m].2.2.2.2.2.2] 41))).alloc (Nat.le_refl _) (.cells #[.int .i64 rv.1, .int .i64 rv.2.1, .int .i64 rv.2.2.1, .int .i64 rv.2.2.2.1, .int .i64 rv.2.2.2.2] 39)) (by simp))
                  have p6 : w3.cell? ⟨wr.heap.size, 6, none⟩ = some (.int .i64 t.2.1[k].2.2.2.2.2.2[m].2.2.2.2.2.2) := (World.cell?_of_block kb).trans (keepc ((Below.refl (wr.alloc (.cells #[.int .i64 t.2.1[k].2.2.2.2.2.2[m].1, .int .i64 t.2.1[k].2.2.2.2.2.2[m].2.1, .int .i64 t.2.1[k].2.2.2.2.2.2[m].2.2.1, .int .i64 t.2.1[k].2.2.2.2.2.2[m].2.2.2.1, .int .i64 t.2.1[k].2.2.2.2.2.2[m].2.2.2.2.1, .int .i64 t.2.1[k].2.2.2.2.2.2[m].2.2.2.2.2.1, .int .i64 t.2.1[k].2.2.2.2.2.2[m].2.2.2.2.2.2] 41)).heap.size (wr.alloc (.cells #[.int .i64 t.2.1[k].2.2.2.2.2.2[m].1, .int .i64 t.2.1[k].2.2.2.2.2.2[m].2.1, .int .i64 t.2.1[k].2.2.2.2.2.2[m].2.2.1, .int .i64 t.2.1[k].2.2.2.2.2.2[m].2.2.2.1, .int .i64 t.2.1[k].2.2.2.2.2.2[m].2.2.2.2.1, .int .i64 t.2.1[k].2.2.2.2.2.2[m].2.2.2.2.2.1, .int .i64 t.2.1[k].2.2.2.2.2.2[m].2.2.2.2.2.2] 41))).alloc (Nat.le_refl _) (.cells #[.int .i64 rv.1, .int .i64 rv.2.1, .int .i64 rv.2.2.1, .int .i64 rv.2.2.2.1, .int .i64 rv.2.2.2.2] 39)) (by simp))
                  have g3 := g1.below msg_kept hb3 hhi1
                  have hz3 := hb3.size
                  clear hgrow3 kb c0 c1' c2' c3 c4 c5 c6 hownq hAc hAq hown2
                  cases e4 : decide (t.2.1[k].2.2.2.2.2.2[m].2.2 = (0, 0, 0, 0, 0))
                  · have e4' := hide e4
                    simp only [e4] at hqz
                    have hsh := hide (SaidHas_c t.2.2 (askM t.2.1[k].2.2.2.2.2.2[m].2.2) B p d lo hi 0 0 none none 0 0 0 0 w3 g3 (RdN.nil_ _ _ _ _ _ _ _ (by simp [maxLen])) (RdN.nil_ _ _ _ _ _ _ _ (by simp [maxLen])) (by omega) (Nat.zero_le _))
                    go_wp2_with fail
                    refine hsh.out.mono ?_
                    rintro e w4 ⟨rfl, hb4⟩
                    have hb5 := hb3.trans (hb4.mono hz3)
                    have hi5 := hi3.trans (hb4.mono (Nat.le_trans hhi1 hz3))
                    have hown5 := hown3.kept (row := none) ⟨hb4.os, hb4.tape, hb4.output, hb4.size, fun i h _ => hb4.block i h⟩ (by simp)
                    cases e5 : decide (askM t.2.1[k].2.2.2.2.2.2[m].2.2 ∈ t.2.2)
                    · have hbad : Hid (decide (GoodL t.2.2 (hcl t.1 t.2.1)) = false) := hide (by
                        simp only [decide_eq_false_iff_not]
                        intro hg
                        rcases hg.1 t.2.1[k].2.2.2.2.2.2[m] (hmem.out _ hlast.out) with h | h
                        · exact of_decide_eq_false e4 h
                        · exact of_decide_eq_false e5 h)
                      go_wp2
                      go_ret
                      exact ⟨by simp [agreeW, hbad.out], hB1.trans (hb5.mono hB1.size)⟩
                    · have e5' := hide e5
                      go_wp2
                      go_roundw
                      case rel => exact ⟨m + 1, j2 + 1, _, by omega, by omega, by go_num, hown5, hmd.out, hide (by rw [htake.out, ← List.append_assoc]; exact GoodL.snoc hgo2.out (.inr (of_decide_eq_true e5'.out)) hcons.out), hb5, hi5⟩
                      case measure => simp [intOf]; omega
                  · have e4' := hide e4
                    simp only [e4] at hqz
                    go_wp2
                    go_roundw
                    case rel => exact ⟨m + 1, j2 + 1, _, by omega, by omega, by go_num, hown3, hmd.out, hide (by rw [htake.out, ← List.append_assoc]; exact GoodL.snoc hgo2.out (.inl (of_decide_eq_true e4'.out)) hcons.out), hb3, hi3⟩
                    case measure => simp [intOf]; omega
            · obtain rfl : m = q1 := by omega
              have hall : Hid (hcl t.1 (t.2.1.take k) ++ t.2.1[k].2.2.2.2.2.2.take m = hcl t.1 (t.2.1.take (k + 1))) := hide (by rw [hst.out, hdh.out, hq'.out, List.take_length])
              go_wp2
              go_roundw
              case rel => exact ⟨k + 1, j2, D2, by omega, by omega, by go_num, hown2, by rw [← hall.out]; exact hD2'.out, hide (by rw [← hall.out]; exact hgo2.out), hbs⟩
              case measure => simp [intOf]; omega
        · have hdh : Hid (doneH t.1 t.2.1[k] = []) := hide (by unfold doneH; rw [if_pos (by simpa using e1)])
          go_wp2
          go_roundw
          case rel => exact ⟨k + 1, j, D, by omega, by omega, by go_num, hown.alloc _, by rw [hst.out, hdh.out, List.append_nil]; exact hD'.out, hide (by rw [hst.out, hdh.out, List.append_nil]; exact hgo.out), hbA⟩
          case measure => simp [intOf]; omega
      · obtain rfl : k = n := by omega
        have hall : Hid (decide (GoodL t.2.2 (hcl t.1 t.2.1)) = true) := hide (by
          have := hgo.out
          rw [hn'.out, List.take_length] at this
          exact decide_eq_true this)
        go_wp2
        go_ret
        exact ⟨by simp [agreeW, hf.out, hall.out], hB1.trans (hbr.mono hB1.size)⟩
end Go.Proofs.YtopmbnnjhoinkaaGreat
