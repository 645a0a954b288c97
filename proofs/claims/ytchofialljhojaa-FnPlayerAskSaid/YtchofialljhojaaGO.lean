/-
  'PlayerAsk' in both packages: what it answers.
-/
import Derived.Test.YtchofialljhojaaGM
import Derived.Test.YtchofialljhojaaGH
namespace Go.Proofs.Ytchofialljhojaa
open Go.RowKit Rg
set_option linter.unusedVariables false
set_option linter.unusedSimpArgs false

/-- What 'PlayerAsk' answers. -/
def askL (r : ReqV) (xs : List ReplyT) (q : ReqV) : (ReqV × List ReplyT) × Bool := if (sureL r xs).2 = true ∧ okR q = true ∧ q.1 = r.1 ∧ r.2.1 < q.2.1 then ((q, []), true) else ((r, xs), false)
theorem askL_no {r : ReqV} {xs : List ReplyT} {q : ReqV} (h : ¬ ((sureL r xs).2 = true ∧ okR q = true ∧ q.1 = r.1 ∧ r.2.1 < q.2.1)) : askL r xs q = ((r, xs), false) := if_neg h
theorem askL_yes {r : ReqV} {xs : List ReplyT} {q : ReqV} (h1 : (sureL r xs).2 = true) (h2 : okR q = true) (h3 : q.1 = r.1) (h4 : r.2.1 < q.2.1) : askL r xs q = ((q, []), true) := if_pos ⟨h1, h2, h3, h4⟩

set_option maxRecDepth 100000 in
set_option maxHeartbeats 4000000 in
theorem PlayerAsk_c (r : ReqV) (A : Option Addr) (n c lo hi : Nat) (xs : List ReplyT) (q : ReqV) (w : World) (hn : n = xs.length) (hb : n ≤ 1048576) (hc : n ≤ c) (hc2 : c ≤ maxLen) (hs : Sl encReply 4 w lo hi A xs) (hhi : hi ≤ w.heap.size) :
    Calls Try.prog 27 #[.agg #[.int .i64 r.1, .int .i64 r.2.1, .int .i64 r.2.2.1, .int .i64 r.2.2.2.1, .int .i64 r.2.2.2.2, .slice A n c], .agg #[.int .i64 q.1, .int .i64 q.2.1, .int .i64 q.2.2.1, .int .i64 q.2.2.2.1, .int .i64 q.2.2.2.2]] w fun e w' => ∃ r' A' n' c' b, e = .returned (.tuple #[.agg #[.int .i64 r'.1, .int .i64 r'.2.1, .int .i64 r'.2.2.1, .int .i64 r'.2.2.2.1, .int .i64 r'.2.2.2.2, .slice A' n' c'], .bool b]) ∧ Own encReply 4 37 w' w.heap.size (.slice A' n' c') (askL r xs q).1.2 ∧ n' = (askL r xs q).1.2.length ∧ r' = (askL r xs q).1.1 ∧ b = (askL r xs q).2 ∧ Below w.heap.size w w' := by
  have hn' := hide hn
  clear hn
  have hs1 : (w.alloc (.cells #[.int .i64 r.1, .int .i64 r.2.1, .int .i64 r.2.2.1, .int .i64 r.2.2.2.1, .int .i64 r.2.2.2.2, .slice A n c] 32)).heap.size = w.heap.size + 1 := by simp
  have hs2 : ((w.alloc (.cells #[.int .i64 r.1, .int .i64 r.2.1, .int .i64 r.2.2.1, .int .i64 r.2.2.2.1, .int .i64 r.2.2.2.2, .slice A n c] 32)).alloc (.cells #[.int .i64 q.1, .int .i64 q.2.1, .int .i64 q.2.2.1, .int .i64 q.2.2.2.1, .int .i64 q.2.2.2.2] 29)).heap.size = w.heap.size + 1 + 1 := by simp
  have hA1 : Below w.heap.size w (w.alloc (.cells #[.int .i64 r.1, .int .i64 r.2.1, .int .i64 r.2.2.1, .int .i64 r.2.2.2.1, .int .i64 r.2.2.2.2, .slice A n c] 32)) := (Below.refl _ _).alloc (Nat.le_refl _) _
  have hA2 : Below (w.alloc (.cells #[.int .i64 r.1, .int .i64 r.2.1, .int .i64 r.2.2.1, .int .i64 r.2.2.2.1, .int .i64 r.2.2.2.2, .slice A n c] 32)).heap.size (w.alloc (.cells #[.int .i64 r.1, .int .i64 r.2.1, .int .i64 r.2.2.1, .int .i64 r.2.2.2.1, .int .i64 r.2.2.2.2, .slice A n c] 32)) ((w.alloc (.cells #[.int .i64 r.1, .int .i64 r.2.1, .int .i64 r.2.2.1, .int .i64 r.2.2.2.1, .int .i64 r.2.2.2.2, .slice A n c] 32)).alloc (.cells #[.int .i64 q.1, .int .i64 q.2.1, .int .i64 q.2.2.1, .int .i64 q.2.2.2.1, .int .i64 q.2.2.2.2] 29)) := (Below.refl _ _).alloc (Nat.le_refl _) _
  have hA3 : Below ((w.alloc (.cells #[.int .i64 r.1, .int .i64 r.2.1, .int .i64 r.2.2.1, .int .i64 r.2.2.2.1, .int .i64 r.2.2.2.2, .slice A n c] 32)).alloc (.cells #[.int .i64 q.1, .int .i64 q.2.1, .int .i64 q.2.2.1, .int .i64 q.2.2.2.1, .int .i64 q.2.2.2.2] 29)).heap.size ((w.alloc (.cells #[.int .i64 r.1, .int .i64 r.2.1, .int .i64 r.2.2.1, .int .i64 r.2.2.2.1, .int .i64 r.2.2.2.2, .slice A n c] 32)).alloc (.cells #[.int .i64 q.1, .int .i64 q.2.1, .int .i64 q.2.2.1, .int .i64 q.2.2.2.1, .int .i64 q.2.2.2.2] 29)) (((w.alloc (.cells #[.int .i64 r.1, .int .i64 r.2.1, .int .i64 r.2.2.1, .int .i64 r.2.2.2.1, .int .i64 r.2.2.2.2, .slice A n c] 32)).alloc (.cells #[.int .i64 q.1, .int .i64 q.2.1, .int .i64 q.2.2.1, .int .i64 q.2.2.2.1, .int .i64 q.2.2.2.2] 29)).alloc (.cells #[.int .i64 0, .int .i64 0, .int .i64 0, .int .i64 0, .int .i64 0, .slice none 0 0] 32)) := (Below.refl _ _).alloc (Nat.le_refl _) _
  have hb0 : Below w.heap.size w (((w.alloc (.cells #[.int .i64 r.1, .int .i64 r.2.1, .int .i64 r.2.2.1, .int .i64 r.2.2.2.1, .int .i64 r.2.2.2.2, .slice A n c] 32)).alloc (.cells #[.int .i64 q.1, .int .i64 q.2.1, .int .i64 q.2.2.1, .int .i64 q.2.2.2.1, .int .i64 q.2.2.2.2] 29)).alloc (.cells #[.int .i64 0, .int .i64 0, .int .i64 0, .int .i64 0, .int .i64 0, .slice none 0 0] 32)) := (hA1.trans (hA2.mono (by omega))).trans (hA3.mono (by omega))
  have hx := ((Box6.made w r.1 r.2.1 r.2.2.1 r.2.2.2.1 r.2.2.2.2 A n c 32).below hA2).below hA3
  have hq := (Box5.made (w.alloc (.cells #[.int .i64 r.1, .int .i64 r.2.1, .int .i64 r.2.2.1, .int .i64 r.2.2.2.1, .int .i64 r.2.2.2.2, .slice A n c] 32)) q.1 q.2.1 q.2.2.1 q.2.2.2.1 q.2.2.2.2 29).below hA3
  have hz := Box6.made ((w.alloc (.cells #[.int .i64 r.1, .int .i64 r.2.1, .int .i64 r.2.2.1, .int .i64 r.2.2.2.1, .int .i64 r.2.2.2.2, .slice A n c] 32)).alloc (.cells #[.int .i64 q.1, .int .i64 q.2.1, .int .i64 q.2.2.1, .int .i64 q.2.2.2.1, .int .i64 q.2.2.2.2] 29)) 0 0 0 0 0 none 0 0 32
  rw [hs1] at hq
  rw [hs2] at hz
  clear hA1 hA2 hA3 hs1 hs2
  have hx' := hx
  obtain ⟨x0, x1, x2, x3, x4, x5, xf0, xf1, xf2, xf3, xf4, xf5⟩ := hx'
  have hq' := hq
  obtain ⟨q0, q1, q2, q3, q4, qf0, qf1, qf2, qf3, qf4⟩ := hq'
  have hz' := hz
  obtain ⟨z0, z1, z2, z3, z4, z5, zf0, zf1, zf2, zf3, zf4, zf5⟩ := hz'
  go_enter Try.func27, Try.ntmps27
  go_wp2_with fail
  generalize ((w.alloc (.cells #[.int .i64 r.1, .int .i64 r.2.1, .int .i64 r.2.2.1, .int .i64 r.2.2.2.1, .int .i64 r.2.2.2.2, .slice A n c] 32)).alloc (.cells #[.int .i64 q.1, .int .i64 q.2.1, .int .i64 q.2.2.1, .int .i64 q.2.2.2.1, .int .i64 q.2.2.2.2] 29)).alloc (.cells #[.int .i64 0, .int .i64 0, .int .i64 0, .int .i64 0, .int .i64 0, .slice none 0 0] 32) = w0 at *
  refine (PlayerSure_c r A n c lo hi xs w0 hn'.out hb hc hc2 (hs.below hb0 hhi) (Nat.le_trans hhi hb0.size)).mono ?_
  rintro e w1 ⟨rfl, hb1⟩
  have hA1 := (Below.refl w1.heap.size w1).alloc (Nat.le_refl _) (.cells #[.int .i64 (sureL r xs).1.1, .int .i64 (sureL r xs).1.2.1, .int .i64 (sureL r xs).1.2.2.1, .int .i64 (sureL r xs).1.2.2.2] 37)
  have hB := (hb0.trans (hb1.mono hb0.size)).trans (hA1.mono (hb0.trans (hb1.mono hb0.size)).size)
  have hx := hx.below hb1
  have hq := hq.below hb1
  have hz := hz.below hb1
  have hx := hx.below hA1
  have hq := hq.below hA1
  have hz := hz.below hA1
  clear hb1 hb0 hA1
  have hx' := hx
  obtain ⟨x0, x1, x2, x3, x4, x5, xf0, xf1, xf2, xf3, xf4, xf5⟩ := hx'
  have hq' := hq
  obtain ⟨q0, q1, q2, q3, q4, qf0, qf1, qf2, qf3, qf4⟩ := hq'
  have hz' := hz
  obtain ⟨z0, z1, z2, z3, z4, z5, zf0, zf1, zf2, zf3, zf4, zf5⟩ := hz'
  cases e1 : (sureL r xs).2
  · have hno := hide (askL_no (q := q) (fun h => by rw [e1] at h; exact absurd h.1 (by simp)))
    go_wp2_with fail
    generalize w1.alloc (.cells #[.int .i64 (sureL r xs).1.1, .int .i64 (sureL r xs).1.2.1, .int .i64 (sureL r xs).1.2.2.1, .int .i64 (sureL r xs).1.2.2.2] 37) = w2 at *
    refine (copyOf_c r A n c lo hi xs w2 hn'.out hb (hs.below hB hhi) (Nat.le_trans hhi hB.size)).mono ?_
    rintro e wq ⟨A5, c5, rfl, ho5, hb5⟩
    have hBs := hB.size
    have hzl : w.heap.size + 1 + 1 < w2.heap.size := hz.lt
    have hB := hB.trans (hb5.mono hB.size)
    have hz := hz.below hb5
    have hz' := hz
    obtain ⟨z0, z1, z2, z3, z4, z5, zf0, zf1, zf2, zf3, zf4, zf5⟩ := hz'
    go_wp2
    refine bodyPost_ret (v := .tuple #[.agg #[.int .i64 r.1, .int .i64 r.2.1, .int .i64 r.2.2.1, .int .i64 r.2.2.2.1, .int .i64 r.2.2.2.2, .slice A5 xs.length c5], .bool false]) (by simp [results, Try.results27, go_sem, z0, z1, z2, z3, z4, z5]) rfl ⟨r, A5, _, c5, false, rfl, ?_, ?_, ?_, ?_, set6_below _ _ _ _ _ _ (by omega) hB⟩
    · rw [hno.out]; exact (ho5.keep (fun k hk => set6_keep _ _ _ _ _ _ (by have := (ho5.lt k hk).1; omega))).mono hBs
    · rw [hno.out]
    · rw [hno.out]
    · rw [hno.out]
  · go_wp2_with fail
    generalize w1.alloc (.cells #[.int .i64 (sureL r xs).1.1, .int .i64 (sureL r xs).1.2.1, .int .i64 (sureL r xs).1.2.2.1, .int .i64 (sureL r xs).1.2.2.2] 37) = w2 at *
    refine (ReqOk_c q.1 q.2.1 q.2.2.1 q.2.2.2.1 q.2.2.2.2 w2).mono ?_
    rintro e w3 ⟨rfl, hb3⟩
    have hB := hB.trans (hb3.mono hB.size)
    have hx := hx.below hb3
    have hq := hq.below hb3
    have hz := hz.below hb3
    have hx' := hx
    obtain ⟨x0, x1, x2, x3, x4, x5, xf0, xf1, xf2, xf3, xf4, xf5⟩ := hx'
    have hq' := hq
    obtain ⟨q0, q1, q2, q3, q4, qf0, qf1, qf2, qf3, qf4⟩ := hq'
    have hz' := hz
    obtain ⟨z0, z1, z2, z3, z4, z5, zf0, zf1, zf2, zf3, zf4, zf5⟩ := hz'
    cases e2 : okR (q.1, q.2.1, q.2.2.1, q.2.2.2.1, q.2.2.2.2)
    · have hno := hide (askL_no (q := q) (r := r) (xs := xs) (fun h => by have := h.2.1; rw [show okR q = false from e2] at this; exact absurd this (by simp)))
      go_wp2_with fail
      refine (copyOf_c r A n c lo hi xs w3 hn'.out hb (hs.below hB hhi) (Nat.le_trans hhi hB.size)).mono ?_
      rintro e wq ⟨A5, c5, rfl, ho5, hb5⟩
      have hBs := hB.size
      have hzl : w.heap.size + 1 + 1 < w3.heap.size := hz.lt
      have hB := hB.trans (hb5.mono hB.size)
      have hz := hz.below hb5
      have hz' := hz
      obtain ⟨z0, z1, z2, z3, z4, z5, zf0, zf1, zf2, zf3, zf4, zf5⟩ := hz'
      go_wp2
      refine bodyPost_ret (v := .tuple #[.agg #[.int .i64 r.1, .int .i64 r.2.1, .int .i64 r.2.2.1, .int .i64 r.2.2.2.1, .int .i64 r.2.2.2.2, .slice A5 xs.length c5], .bool false]) (by simp [results, Try.results27, go_sem, z0, z1, z2, z3, z4, z5]) rfl ⟨r, A5, _, c5, false, rfl, ?_, ?_, ?_, ?_, set6_below _ _ _ _ _ _ (by omega) hB⟩
      · rw [hno.out]; exact (ho5.keep (fun k hk => set6_keep _ _ _ _ _ _ (by have := (ho5.lt k hk).1; omega))).mono hBs
      · rw [hno.out]
      · rw [hno.out]
      · rw [hno.out]
    · by_cases h3 : q.1 = r.1
      · have d3 : (q.1 != r.1) = false := by simp [h3]
        by_cases h4 : r.2.1 < q.2.1
        · have d4 : decide (q.2.1 ≤ r.2.1) = false := by simp; omega
          have hyes := hide (askL_yes e1 (show okR q = true from e2) h3 h4)
          have hzl := hz.lt
          clear h3 h4 e1 e2
          go_wp2
          refine bodyPost_ret (v := .tuple #[.agg #[.int .i64 q.1, .int .i64 q.2.1, .int .i64 q.2.2.1, .int .i64 q.2.2.2.1, .int .i64 q.2.2.2.2, .slice none 0 0], .bool true]) (by simp [results, Try.results27, go_sem, z0, z1, z2, z3, z4, z5]) rfl ⟨q, none, 0, 0, true, rfl, ?_, ?_, ?_, ?_, set6_below _ _ _ _ _ _ (by omega) hB⟩
          · rw [hyes.out]; exact Own.nil_ _ _ _ _ _
          · rw [hyes.out]; rfl
          · rw [hyes.out]
          · rw [hyes.out]
        · have d4 : decide (q.2.1 ≤ r.2.1) = true := by simp; omega
          have hno := hide (askL_no (q := q) (r := r) (xs := xs) (fun h => h4 h.2.2.2))
          clear h3 h4 e1 e2
          go_wp2_with fail
          refine (copyOf_c r A n c lo hi xs w3 hn'.out hb (hs.below hB hhi) (Nat.le_trans hhi hB.size)).mono ?_
          rintro e wq ⟨A5, c5, rfl, ho5, hb5⟩
          have hBs := hB.size
          have hzl : w.heap.size + 1 + 1 < w3.heap.size := hz.lt
          have hB := hB.trans (hb5.mono hB.size)
          have hz := hz.below hb5
          have hz' := hz
          obtain ⟨z0, z1, z2, z3, z4, z5, zf0, zf1, zf2, zf3, zf4, zf5⟩ := hz'
          go_wp2
          refine bodyPost_ret (v := .tuple #[.agg #[.int .i64 r.1, .int .i64 r.2.1, .int .i64 r.2.2.1, .int .i64 r.2.2.2.1, .int .i64 r.2.2.2.2, .slice A5 xs.length c5], .bool false]) (by simp [results, Try.results27, go_sem, z0, z1, z2, z3, z4, z5]) rfl ⟨r, A5, _, c5, false, rfl, ?_, ?_, ?_, ?_, set6_below _ _ _ _ _ _ (by omega) hB⟩
          · rw [hno.out]; exact (ho5.keep (fun k hk => set6_keep _ _ _ _ _ _ (by have := (ho5.lt k hk).1; omega))).mono hBs
          · rw [hno.out]
          · rw [hno.out]
          · rw [hno.out]
      · have d3 : (q.1 != r.1) = true := by simpa using h3
        have hno := hide (askL_no (q := q) (r := r) (xs := xs) (fun h => h3 h.2.2.1))
        clear h3 e1 e2
        go_wp2_with fail
        refine (copyOf_c r A n c lo hi xs w3 hn'.out hb (hs.below hB hhi) (Nat.le_trans hhi hB.size)).mono ?_
        rintro e wq ⟨A5, c5, rfl, ho5, hb5⟩
        have hBs := hB.size
        have hzl : w.heap.size + 1 + 1 < w3.heap.size := hz.lt
        have hB := hB.trans (hb5.mono hB.size)
        have hz := hz.below hb5
        have hz' := hz
        obtain ⟨z0, z1, z2, z3, z4, z5, zf0, zf1, zf2, zf3, zf4, zf5⟩ := hz'
        go_wp2
        refine bodyPost_ret (v := .tuple #[.agg #[.int .i64 r.1, .int .i64 r.2.1, .int .i64 r.2.2.1, .int .i64 r.2.2.2.1, .int .i64 r.2.2.2.2, .slice A5 xs.length c5], .bool false]) (by simp [results, Try.results27, go_sem, z0, z1, z2, z3, z4, z5]) rfl ⟨r, A5, _, c5, false, rfl, ?_, ?_, ?_, ?_, set6_below _ _ _ _ _ _ (by omega) hB⟩
        · rw [hno.out]; exact (ho5.keep (fun k hk => set6_keep _ _ _ _ _ _ (by have := (ho5.lt k hk).1; omega))).mono hBs
        · rw [hno.out]
        · rw [hno.out]
        · rw [hno.out]

set_option maxRecDepth 100000 in
set_option maxHeartbeats 4000000 in
theorem specPlayerAsk_c (r : ReqV) (A : Option Addr) (n c lo hi : Nat) (xs : List ReplyT) (q : ReqV) (w : World) (hn : n = xs.length) (hb : n ≤ 1048576) (hc : n ≤ c) (hc2 : c ≤ maxLen) (hs : Sl encReply 4 w lo hi A xs) (hhi : hi ≤ w.heap.size) :
    Calls Try.prog 28 #[.agg #[.int .i64 r.1, .int .i64 r.2.1, .int .i64 r.2.2.1, .int .i64 r.2.2.2.1, .int .i64 r.2.2.2.2, .slice A n c], .agg #[.int .i64 q.1, .int .i64 q.2.1, .int .i64 q.2.2.1, .int .i64 q.2.2.2.1, .int .i64 q.2.2.2.2]] w fun e w' => ∃ r' A' n' c' b, e = .returned (.tuple #[.agg #[.int .i64 r'.1, .int .i64 r'.2.1, .int .i64 r'.2.2.1, .int .i64 r'.2.2.2.1, .int .i64 r'.2.2.2.2, .slice A' n' c'], .bool b]) ∧ Own encReply 4 37 w' w.heap.size (.slice A' n' c') (askL r xs q).1.2 ∧ n' = (askL r xs q).1.2.length ∧ r' = (askL r xs q).1.1 ∧ b = (askL r xs q).2 ∧ Below w.heap.size w w' := by
  have hn' := hide hn
  clear hn
  have hs1 : (w.alloc (.cells #[.int .i64 r.1, .int .i64 r.2.1, .int .i64 r.2.2.1, .int .i64 r.2.2.2.1, .int .i64 r.2.2.2.2, .slice A n c] 32)).heap.size = w.heap.size + 1 := by simp
  have hs2 : ((w.alloc (.cells #[.int .i64 r.1, .int .i64 r.2.1, .int .i64 r.2.2.1, .int .i64 r.2.2.2.1, .int .i64 r.2.2.2.2, .slice A n c] 32)).alloc (.cells #[.int .i64 q.1, .int .i64 q.2.1, .int .i64 q.2.2.1, .int .i64 q.2.2.2.1, .int .i64 q.2.2.2.2] 29)).heap.size = w.heap.size + 1 + 1 := by simp
  have hA1 : Below w.heap.size w (w.alloc (.cells #[.int .i64 r.1, .int .i64 r.2.1, .int .i64 r.2.2.1, .int .i64 r.2.2.2.1, .int .i64 r.2.2.2.2, .slice A n c] 32)) := (Below.refl _ _).alloc (Nat.le_refl _) _
  have hA2 : Below (w.alloc (.cells #[.int .i64 r.1, .int .i64 r.2.1, .int .i64 r.2.2.1, .int .i64 r.2.2.2.1, .int .i64 r.2.2.2.2, .slice A n c] 32)).heap.size (w.alloc (.cells #[.int .i64 r.1, .int .i64 r.2.1, .int .i64 r.2.2.1, .int .i64 r.2.2.2.1, .int .i64 r.2.2.2.2, .slice A n c] 32)) ((w.alloc (.cells #[.int .i64 r.1, .int .i64 r.2.1, .int .i64 r.2.2.1, .int .i64 r.2.2.2.1, .int .i64 r.2.2.2.2, .slice A n c] 32)).alloc (.cells #[.int .i64 q.1, .int .i64 q.2.1, .int .i64 q.2.2.1, .int .i64 q.2.2.2.1, .int .i64 q.2.2.2.2] 29)) := (Below.refl _ _).alloc (Nat.le_refl _) _
  have hA3 : Below ((w.alloc (.cells #[.int .i64 r.1, .int .i64 r.2.1, .int .i64 r.2.2.1, .int .i64 r.2.2.2.1, .int .i64 r.2.2.2.2, .slice A n c] 32)).alloc (.cells #[.int .i64 q.1, .int .i64 q.2.1, .int .i64 q.2.2.1, .int .i64 q.2.2.2.1, .int .i64 q.2.2.2.2] 29)).heap.size ((w.alloc (.cells #[.int .i64 r.1, .int .i64 r.2.1, .int .i64 r.2.2.1, .int .i64 r.2.2.2.1, .int .i64 r.2.2.2.2, .slice A n c] 32)).alloc (.cells #[.int .i64 q.1, .int .i64 q.2.1, .int .i64 q.2.2.1, .int .i64 q.2.2.2.1, .int .i64 q.2.2.2.2] 29)) (((w.alloc (.cells #[.int .i64 r.1, .int .i64 r.2.1, .int .i64 r.2.2.1, .int .i64 r.2.2.2.1, .int .i64 r.2.2.2.2, .slice A n c] 32)).alloc (.cells #[.int .i64 q.1, .int .i64 q.2.1, .int .i64 q.2.2.1, .int .i64 q.2.2.2.1, .int .i64 q.2.2.2.2] 29)).alloc (.cells #[.int .i64 0, .int .i64 0, .int .i64 0, .int .i64 0, .int .i64 0, .slice none 0 0] 32)) := (Below.refl _ _).alloc (Nat.le_refl _) _
  have hb0 : Below w.heap.size w (((w.alloc (.cells #[.int .i64 r.1, .int .i64 r.2.1, .int .i64 r.2.2.1, .int .i64 r.2.2.2.1, .int .i64 r.2.2.2.2, .slice A n c] 32)).alloc (.cells #[.int .i64 q.1, .int .i64 q.2.1, .int .i64 q.2.2.1, .int .i64 q.2.2.2.1, .int .i64 q.2.2.2.2] 29)).alloc (.cells #[.int .i64 0, .int .i64 0, .int .i64 0, .int .i64 0, .int .i64 0, .slice none 0 0] 32)) := (hA1.trans (hA2.mono (by omega))).trans (hA3.mono (by omega))
  have hx := ((Box6.made w r.1 r.2.1 r.2.2.1 r.2.2.2.1 r.2.2.2.2 A n c 32).below hA2).below hA3
  have hq := (Box5.made (w.alloc (.cells #[.int .i64 r.1, .int .i64 r.2.1, .int .i64 r.2.2.1, .int .i64 r.2.2.2.1, .int .i64 r.2.2.2.2, .slice A n c] 32)) q.1 q.2.1 q.2.2.1 q.2.2.2.1 q.2.2.2.2 29).below hA3
  have hz := Box6.made ((w.alloc (.cells #[.int .i64 r.1, .int .i64 r.2.1, .int .i64 r.2.2.1, .int .i64 r.2.2.2.1, .int .i64 r.2.2.2.2, .slice A n c] 32)).alloc (.cells #[.int .i64 q.1, .int .i64 q.2.1, .int .i64 q.2.2.1, .int .i64 q.2.2.2.1, .int .i64 q.2.2.2.2] 29)) 0 0 0 0 0 none 0 0 32
  rw [hs1] at hq
  rw [hs2] at hz
  clear hA1 hA2 hA3 hs1 hs2
  have hx' := hx
  obtain ⟨x0, x1, x2, x3, x4, x5, xf0, xf1, xf2, xf3, xf4, xf5⟩ := hx'
  have hq' := hq
  obtain ⟨q0, q1, q2, q3, q4, qf0, qf1, qf2, qf3, qf4⟩ := hq'
  have hz' := hz
  obtain ⟨z0, z1, z2, z3, z4, z5, zf0, zf1, zf2, zf3, zf4, zf5⟩ := hz'
  go_enter Try.func28, Try.ntmps28
  go_wp2_with fail
  generalize ((w.alloc (.cells #[.int .i64 r.1, .int .i64 r.2.1, .int .i64 r.2.2.1, .int .i64 r.2.2.2.1, .int .i64 r.2.2.2.2, .slice A n c] 32)).alloc (.cells #[.int .i64 q.1, .int .i64 q.2.1, .int .i64 q.2.2.1, .int .i64 q.2.2.2.1, .int .i64 q.2.2.2.2] 29)).alloc (.cells #[.int .i64 0, .int .i64 0, .int .i64 0, .int .i64 0, .int .i64 0, .slice none 0 0] 32) = w0 at *
  refine (specPlayerSure_c r A n c lo hi xs w0 hn'.out hb hc hc2 (hs.below hb0 hhi) (Nat.le_trans hhi hb0.size)).mono ?_
  rintro e w1 ⟨rfl, hb1⟩
  have hA1 := (Below.refl w1.heap.size w1).alloc (Nat.le_refl _) (.cells #[.int .i64 (sureL r xs).1.1, .int .i64 (sureL r xs).1.2.1, .int .i64 (sureL r xs).1.2.2.1, .int .i64 (sureL r xs).1.2.2.2] 37)
  have hB := (hb0.trans (hb1.mono hb0.size)).trans (hA1.mono (hb0.trans (hb1.mono hb0.size)).size)
  have hx := hx.below hb1
  have hq := hq.below hb1
  have hz := hz.below hb1
  have hx := hx.below hA1
  have hq := hq.below hA1
  have hz := hz.below hA1
  clear hb1 hb0 hA1
  have hx' := hx
  obtain ⟨x0, x1, x2, x3, x4, x5, xf0, xf1, xf2, xf3, xf4, xf5⟩ := hx'
  have hq' := hq
  obtain ⟨q0, q1, q2, q3, q4, qf0, qf1, qf2, qf3, qf4⟩ := hq'
  have hz' := hz
  obtain ⟨z0, z1, z2, z3, z4, z5, zf0, zf1, zf2, zf3, zf4, zf5⟩ := hz'
  cases e1 : (sureL r xs).2
  · have hno := hide (askL_no (q := q) (fun h => by rw [e1] at h; exact absurd h.1 (by simp)))
    go_wp2_with fail
    generalize w1.alloc (.cells #[.int .i64 (sureL r xs).1.1, .int .i64 (sureL r xs).1.2.1, .int .i64 (sureL r xs).1.2.2.1, .int .i64 (sureL r xs).1.2.2.2] 37) = w2 at *
    refine (l11Copy_c r A n c lo hi xs w2 hn'.out hb (hs.below hB hhi) (Nat.le_trans hhi hB.size)).mono ?_
    rintro e wq ⟨A5, c5, rfl, ho5, hb5⟩
    have hBs := hB.size
    have hzl : w.heap.size + 1 + 1 < w2.heap.size := hz.lt
    have hB := hB.trans (hb5.mono hB.size)
    have hz := hz.below hb5
    have hz' := hz
    obtain ⟨z0, z1, z2, z3, z4, z5, zf0, zf1, zf2, zf3, zf4, zf5⟩ := hz'
    go_wp2
    refine bodyPost_ret (v := .tuple #[.agg #[.int .i64 r.1, .int .i64 r.2.1, .int .i64 r.2.2.1, .int .i64 r.2.2.2.1, .int .i64 r.2.2.2.2, .slice A5 xs.length c5], .bool false]) (by simp [results, Try.results28, go_sem, z0, z1, z2, z3, z4, z5]) rfl ⟨r, A5, _, c5, false, rfl, ?_, ?_, ?_, ?_, set6_below _ _ _ _ _ _ (by omega) hB⟩
    · rw [hno.out]; exact (ho5.keep (fun k hk => set6_keep _ _ _ _ _ _ (by have := (ho5.lt k hk).1; omega))).mono hBs
    · rw [hno.out]
    · rw [hno.out]
    · rw [hno.out]
  · go_wp2_with fail
    generalize w1.alloc (.cells #[.int .i64 (sureL r xs).1.1, .int .i64 (sureL r xs).1.2.1, .int .i64 (sureL r xs).1.2.2.1, .int .i64 (sureL r xs).1.2.2.2] 37) = w2 at *
    refine (l1Ok_c q.1 q.2.1 q.2.2.1 q.2.2.2.1 q.2.2.2.2 w2).mono ?_
    rintro e w3 ⟨rfl, hb3⟩
    have hB := hB.trans (hb3.mono hB.size)
    have hx := hx.below hb3
    have hq := hq.below hb3
    have hz := hz.below hb3
    have hx' := hx
    obtain ⟨x0, x1, x2, x3, x4, x5, xf0, xf1, xf2, xf3, xf4, xf5⟩ := hx'
    have hq' := hq
    obtain ⟨q0, q1, q2, q3, q4, qf0, qf1, qf2, qf3, qf4⟩ := hq'
    have hz' := hz
    obtain ⟨z0, z1, z2, z3, z4, z5, zf0, zf1, zf2, zf3, zf4, zf5⟩ := hz'
    cases e2 : okR (q.1, q.2.1, q.2.2.1, q.2.2.2.1, q.2.2.2.2)
    · have hno := hide (askL_no (q := q) (r := r) (xs := xs) (fun h => by have := h.2.1; rw [show okR q = false from e2] at this; exact absurd this (by simp)))
      go_wp2_with fail
      refine (l11Copy_c r A n c lo hi xs w3 hn'.out hb (hs.below hB hhi) (Nat.le_trans hhi hB.size)).mono ?_
      rintro e wq ⟨A5, c5, rfl, ho5, hb5⟩
      have hBs := hB.size
      have hzl : w.heap.size + 1 + 1 < w3.heap.size := hz.lt
      have hB := hB.trans (hb5.mono hB.size)
      have hz := hz.below hb5
      have hz' := hz
      obtain ⟨z0, z1, z2, z3, z4, z5, zf0, zf1, zf2, zf3, zf4, zf5⟩ := hz'
      go_wp2
      refine bodyPost_ret (v := .tuple #[.agg #[.int .i64 r.1, .int .i64 r.2.1, .int .i64 r.2.2.1, .int .i64 r.2.2.2.1, .int .i64 r.2.2.2.2, .slice A5 xs.length c5], .bool false]) (by simp [results, Try.results28, go_sem, z0, z1, z2, z3, z4, z5]) rfl ⟨r, A5, _, c5, false, rfl, ?_, ?_, ?_, ?_, set6_below _ _ _ _ _ _ (by omega) hB⟩
      · rw [hno.out]; exact (ho5.keep (fun k hk => set6_keep _ _ _ _ _ _ (by have := (ho5.lt k hk).1; omega))).mono hBs
      · rw [hno.out]
      · rw [hno.out]
      · rw [hno.out]
    · by_cases h3 : q.1 = r.1
      · have d3 : (q.1 != r.1) = false := by simp [h3]
        by_cases h4 : r.2.1 < q.2.1
        · have d4 : decide (q.2.1 ≤ r.2.1) = false := by simp; omega
          have hyes := hide (askL_yes e1 (show okR q = true from e2) h3 h4)
          have hzl := hz.lt
          clear h3 h4 e1 e2
          go_wp2
          refine bodyPost_ret (v := .tuple #[.agg #[.int .i64 q.1, .int .i64 q.2.1, .int .i64 q.2.2.1, .int .i64 q.2.2.2.1, .int .i64 q.2.2.2.2, .slice none 0 0], .bool true]) (by simp [results, Try.results28, go_sem, z0, z1, z2, z3, z4, z5]) rfl ⟨q, none, 0, 0, true, rfl, ?_, ?_, ?_, ?_, set6_below _ _ _ _ _ _ (by omega) hB⟩
          · rw [hyes.out]; exact Own.nil_ _ _ _ _ _
          · rw [hyes.out]; rfl
          · rw [hyes.out]
          · rw [hyes.out]
        · have d4 : decide (q.2.1 ≤ r.2.1) = true := by simp; omega
          have hno := hide (askL_no (q := q) (r := r) (xs := xs) (fun h => h4 h.2.2.2))
          clear h3 h4 e1 e2
          go_wp2_with fail
          refine (l11Copy_c r A n c lo hi xs w3 hn'.out hb (hs.below hB hhi) (Nat.le_trans hhi hB.size)).mono ?_
          rintro e wq ⟨A5, c5, rfl, ho5, hb5⟩
          have hBs := hB.size
          have hzl : w.heap.size + 1 + 1 < w3.heap.size := hz.lt
          have hB := hB.trans (hb5.mono hB.size)
          have hz := hz.below hb5
          have hz' := hz
          obtain ⟨z0, z1, z2, z3, z4, z5, zf0, zf1, zf2, zf3, zf4, zf5⟩ := hz'
          go_wp2
          refine bodyPost_ret (v := .tuple #[.agg #[.int .i64 r.1, .int .i64 r.2.1, .int .i64 r.2.2.1, .int .i64 r.2.2.2.1, .int .i64 r.2.2.2.2, .slice A5 xs.length c5], .bool false]) (by simp [results, Try.results28, go_sem, z0, z1, z2, z3, z4, z5]) rfl ⟨r, A5, _, c5, false, rfl, ?_, ?_, ?_, ?_, set6_below _ _ _ _ _ _ (by omega) hB⟩
          · rw [hno.out]; exact (ho5.keep (fun k hk => set6_keep _ _ _ _ _ _ (by have := (ho5.lt k hk).1; omega))).mono hBs
          · rw [hno.out]
          · rw [hno.out]
          · rw [hno.out]
      · have d3 : (q.1 != r.1) = true := by simpa using h3
        have hno := hide (askL_no (q := q) (r := r) (xs := xs) (fun h => h3 h.2.2.1))
        clear h3 e1 e2
        go_wp2_with fail
        refine (l11Copy_c r A n c lo hi xs w3 hn'.out hb (hs.below hB hhi) (Nat.le_trans hhi hB.size)).mono ?_
        rintro e wq ⟨A5, c5, rfl, ho5, hb5⟩
        have hBs := hB.size
        have hzl : w.heap.size + 1 + 1 < w3.heap.size := hz.lt
        have hB := hB.trans (hb5.mono hB.size)
        have hz := hz.below hb5
        have hz' := hz
        obtain ⟨z0, z1, z2, z3, z4, z5, zf0, zf1, zf2, zf3, zf4, zf5⟩ := hz'
        go_wp2
        refine bodyPost_ret (v := .tuple #[.agg #[.int .i64 r.1, .int .i64 r.2.1, .int .i64 r.2.2.1, .int .i64 r.2.2.2.1, .int .i64 r.2.2.2.2, .slice A5 xs.length c5], .bool false]) (by simp [results, Try.results28, go_sem, z0, z1, z2, z3, z4, z5]) rfl ⟨r, A5, _, c5, false, rfl, ?_, ?_, ?_, ?_, set6_below _ _ _ _ _ _ (by omega) hB⟩
        · rw [hno.out]; exact (ho5.keep (fun k hk => set6_keep _ _ _ _ _ _ (by have := (ho5.lt k hk).1; omega))).mono hBs
        · rw [hno.out]
        · rw [hno.out]
        · rw [hno.out]
end Go.Proofs.Ytchofialljhojaa
