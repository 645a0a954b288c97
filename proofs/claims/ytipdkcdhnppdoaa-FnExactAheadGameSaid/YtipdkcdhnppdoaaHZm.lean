/-
  The laws' 'szAhead', 'toAhead', 'eqAhead', 'markAhead'. (Printed by gen_hzm.py.)
  Conditions: none.
-/
import Derived.Test.YtipdkcdhnppdoaaHZh
namespace Go.Proofs.Ytipdkcdhnppdoaa
open Go.RowKit Rg
set_option linter.unusedVariables false
set_option linter.unusedSimpArgs false

theorem szReq_at (A : Option Addr) (n c left : Nat) (w : World) (hl : left ≤ 1048576) (hm : n ≤ maxLen) :
    Calls Try.prog 6 #[.slice A n c, .int .i64 ((1048576 : Int) - (left : Int))] w fun e w' => e = .returned (.int .i64 (if n + left ≤ 1048576 then 1048576 - (left : Int) - (n : Int) else -1)) ∧ Below w.heap.size w w' := by
  unfold maxLen at hm
  by_cases h : n + left ≤ 1048576
  · have d1 : decide ((1048576 : Int) - (left : Int) - (n : Int) < 0) = false := decide_eq_false (by omega)
    go_enter Try.func6, Try.ntmps6
    go_wp2
    go_ret
    exact ⟨rfl, Below.refl _ _⟩
  · have d1 : decide ((1048576 : Int) - (left : Int) - (n : Int) < 0) = true := decide_eq_true (by omega)
    go_enter Try.func6, Try.ntmps6
    go_wp2
    go_ret
    exact ⟨rfl, Below.refl _ _⟩
set_option maxRecDepth 100000 in
set_option maxHeartbeats 2000000 in
theorem szAhead_c (A : Option Addr) (n c : Nat) (B : Option Addr) (m d : Nat) (k : Int) (w : World) (hn : n ≤ maxLen) (hm : m ≤ maxLen) :
    Calls Try.prog 15 #[.agg #[.slice A n c, .slice B m d, .int .i64 k], .int .i64 1048576] w fun e w' => e = .returned (.int .i64 (if n + m ≤ 1048576 then 1048576 - (n : Int) - (m : Int) else -1)) ∧ Below w.heap.size w w' := by
  have hn' : n ≤ 9223372036854775807 := by unfold maxLen at hn; exact hn
  have hm' : m ≤ 9223372036854775807 := by unfold maxLen at hm; exact hm
  have hA0 := (Below.refl w.heap.size w).alloc (Nat.le_refl _) (.cells #[.slice A n c, .slice B m d, .int .i64 k] 37)
  have hx0 := Bx3.made w (.slice A n c) (.slice B m d) (.int .i64 k) 37
  have hx0h := hide hx0
  clear hx0
  by_cases hz : n ≤ 1048576
  · have d1 : decide ((1048576 : Int) - (n : Int) < 0) = false := decide_eq_false (by omega)
    go_enter Try.func15, Try.ntmps15
    go_wp2_with fail
    generalize w.alloc (.cells #[.slice A n c, .slice B m d, .int .i64 k] 37) = w1 at *
    refine (szReq_yes A n c w1 hz).mono ?_
    rintro e w2 ⟨rfl, hb2⟩
    have hB2 := hA0.trans (hb2.mono hA0.size)
    have hx2 := hx0h.out.below hb2 hx0h.out.lt
    obtain ⟨xx0, xx1, xx2, -, -, -⟩ := hx2.cells
    go_wp2_with fail
    by_cases hz2 : n + m ≤ 1048576
    · have d2 : decide ((1048576 : Int) - (n : Int) - (m : Int) < 0) = false := decide_eq_false (by omega)
      refine (szReq_at B m d n w2 hz hm).mono ?_
      rintro e w3 ⟨rfl, hb3⟩
      rw [if_pos (by omega)]
      go_wp2
      go_ret
      exact ⟨rfl, hB2.trans (hb3.mono hB2.size)⟩
    · refine (szReq_at B m d n w2 hz hm).mono ?_
      rintro e w3 ⟨rfl, hb3⟩
      rw [if_neg (by omega)]
      go_wp2
      go_ret
      exact ⟨rfl, hB2.trans (hb3.mono hB2.size)⟩
  · have d1 : decide ((-1 : Int) < 0) = true := by decide
    go_enter Try.func15, Try.ntmps15
    go_wp2_with fail
    refine (szReq_no A n c _ hz hn).mono ?_
    rintro e w2 ⟨rfl, hb2⟩
    have hB2 := hA0.trans (hb2.mono hA0.size)
    go_wp2
    go_ret
    exact ⟨by first | rfl | (rw [if_neg (by omega)]; rfl), hB2⟩
/-- What 'toAhead' makes: two lists of its own, apart. -/
def AhP (w : World) (ds ws : List ReqT) (k : Int) (e : Ending) (w' : World) : Prop := ∃ (A : Option Addr) (c : Nat) (B : Option Addr) (d K : Nat), e = .returned (.agg #[.slice A ds.length c, .slice B ws.length d, .int .i64 k]) ∧ w.heap.size ≤ K ∧
  Own encReq 5 48 w' w.heap.size (.slice A ds.length c) ds ∧ (∀ b, (Value.slice A ds.length c).ownBlock = some b → b < K) ∧ Own encReq 5 48 w' K (.slice B ws.length d) ws ∧ Below w.heap.size w w'
theorem fin_toAhead {w w4 w' : World} {A : Option Addr} {c : Nat} {B : Option Addr} {d : Nat} {ds ws : List ReqT} {k : Int} {lo : Nat} (x y K : Nat) (hO : Onl x y w4 w') (hB : Below w.heap.size w w4) (hx : w.heap.size ≤ x) (hy : w.heap.size ≤ y) (hK : w.heap.size ≤ K) (hl : w.heap.size ≤ lo)
    (hd : Own encReq 5 48 w4 lo (.slice A ds.length c) ds) (hd1 : ∀ b, (Value.slice A ds.length c).ownBlock = some b → w.heap.size ≤ b ∧ b < K) (hd2 : ∀ b, (Value.slice A ds.length c).ownBlock = some b → b ≠ x ∧ b ≠ y)
    (hw : Own encReq 5 48 w4 K (.slice B ws.length d) ws) (hw2 : ∀ b, (Value.slice B ws.length d).ownBlock = some b → b ≠ x ∧ b ≠ y) :
    AhP w ds ws k (.returned (.agg #[.slice A ds.length c, .slice B ws.length d, .int .i64 k])) w' :=
  ⟨A, c, B, d, K, rfl, hK, (hd.keep (fun b hb => hO.blk b (hd2 b hb).1 (hd2 b hb).2)).mono hl, fun b hb => (hd1 b hb).2, hw.keep (fun b hb => hO.blk b (hw2 b hb).1 (hw2 b hb).2), hO.bel _ _ hx hy hB⟩
set_option maxRecDepth 100000 in
set_option maxHeartbeats 2000000 in
theorem toAhead_c (A : Option Addr) (n c : Nat) (B : Option Addr) (m d : Nat) (k : Int) (hi : Nat) (ds ws : List ReqT) (w : World) (hnd : n = ds.length) (hmd : m = ws.length) (hn : n ≤ 1048576) (hm : m ≤ 1048576) (hsd : Sl encReq 5 w 0 hi A ds) (hsw : Sl encReq 5 w 0 hi B ws) (hhi : hi ≤ w.heap.size) :
    Calls Try.prog 17 #[.agg #[.slice A n c, .slice B m d, .int .i64 k]] w fun e w' => AhP w ds ws k e w' := by
  have hAB : Below w.heap.size w (((w.alloc (.cells #[.slice A n c, .slice B m d, .int .i64 k] 37)).alloc (.cells #[.slice none 0 0, .slice none 0 0, .int .i64 0] 41)).alloc (.cells #[.slice none 0 0, .slice none 0 0, .int .i64 0] 41)) := (((Below.refl w.heap.size w).alloc (Nat.le_refl _) _).alloc (by simp) _).alloc (by simp; omega) _
  have hx0 : Bx3 (((w.alloc (.cells #[.slice A n c, .slice B m d, .int .i64 k] 37)).alloc (.cells #[.slice none 0 0, .slice none 0 0, .int .i64 0] 41)).alloc (.cells #[.slice none 0 0, .slice none 0 0, .int .i64 0] 41)) w.heap.size (.slice A n c) (.slice B m d) (.int .i64 k) 37 := ((Bx3.made w (.slice A n c) (.slice B m d) (.int .i64 k) 37).alloc _).alloc _
  have hr0 : Bx3 (((w.alloc (.cells #[.slice A n c, .slice B m d, .int .i64 k] 37)).alloc (.cells #[.slice none 0 0, .slice none 0 0, .int .i64 0] 41)).alloc (.cells #[.slice none 0 0, .slice none 0 0, .int .i64 0] 41)) (w.heap.size + 1) (.slice none 0 0) (.slice none 0 0) (.int .i64 0) 41 := (Bx3.newE (by simp)).alloc _
  have hy0 : Bx3 (((w.alloc (.cells #[.slice A n c, .slice B m d, .int .i64 k] 37)).alloc (.cells #[.slice none 0 0, .slice none 0 0, .int .i64 0] 41)).alloc (.cells #[.slice none 0 0, .slice none 0 0, .int .i64 0] 41)) (w.heap.size + 2) (.slice none 0 0) (.slice none 0 0) (.int .i64 0) 41 := Bx3.newE (by simp)
  have hz1 : w.heap.size + 3 ≤ (((w.alloc (.cells #[.slice A n c, .slice B m d, .int .i64 k] 37)).alloc (.cells #[.slice none 0 0, .slice none 0 0, .int .i64 0] 41)).alloc (.cells #[.slice none 0 0, .slice none 0 0, .int .i64 0] 41)).heap.size := by simp only [World.size_alloc]; omega
  have hsd1 := hide (hsd.below hAB hhi)
  have hsw1 := hide (hsw.below hAB hhi)
  have hnl := hide hnd
  have hml := hide hmd
  clear hsd hsw hnd hmd
  go_enter Try.func17, Try.ntmps17
  go_wp2_with fail
  generalize (((w.alloc (.cells #[.slice A n c, .slice B m d, .int .i64 k] 37)).alloc (.cells #[.slice none 0 0, .slice none 0 0, .int .i64 0] 41)).alloc (.cells #[.slice none 0 0, .slice none 0 0, .int .i64 0] 41)) = w1 at *
  refine (toReqS_c A n c 0 hi ds w1 hnl.out hn hsd1.out (by omega)).mono ?_
  rintro e w2 ⟨v2, rfl, o2, hb2⟩
  obtain ⟨A2, c2, rfl, _, _, _⟩ := o2.form
  have hz2 := hb2.size
  have hx2 := hx0.below hb2 hx0.lt
  have hr2 := hr0.below hb2 hr0.lt
  have hy2 := hy0.below hb2 hy0.lt
  have hB2 := hAB.trans (hb2.mono (by omega))
  have hsw2 := hide (hsw1.out.below hb2 (by omega))
  have o2h := hide o2
  have hlt2 : Hid (∀ b, (Value.slice A2 ds.length c2).ownBlock = some b → w1.heap.size ≤ b ∧ b < w2.heap.size) := hide (fun b hb => o2.lt b hb)
  obtain ⟨xx0, xx1, xx2, -, -, -⟩ := hx2.cells
  obtain ⟨yy0, yy1, yy2, yg0, yg1, yg2⟩ := hy2.cells
  clear o2 hsw1 hb2
  go_wp2_with fail
  have hO3 : Onl (w.heap.size + 2) (w.heap.size + 2) w2 (w2.setCell ⟨w.heap.size + 2, 0, none⟩ (.slice A2 ds.length c2)) := (Onl.refl _ _ _).set (p := ⟨w.heap.size + 2, 0, none⟩) (.inl rfl) _
  have hz3 : w2.heap.size = (w2.setCell ⟨w.heap.size + 2, 0, none⟩ (.slice A2 ds.length c2)).heap.size := by simp
  have hx3 := hx2.keep (hO3.blk _ (by omega) (by omega))
  have hr3 := hr2.keep (hO3.blk _ (by omega) (by omega))
  have hy3 := hy2.set0 (.slice A2 ds.length c2)
  have o3h := hide (o2h.out.keep (fun b hb => hO3.blk b (by have := hlt2.out b hb; omega) (by have := hlt2.out b hb; omega)))
  have hsw3 := hide (hsw2.out.keep (fun b hb1 hb2 => hO3.blk b (by omega) (by omega)))
  have hB3 := hO3.bel w.heap.size w (by omega) (by omega) hB2
  clear xx0 xx1 xx2 yy0 yy1 yy2 yg0 yg1 yg2 o2h hsw2
  generalize w2.setCell ⟨w.heap.size + 2, 0, none⟩ (.slice A2 ds.length c2) = w3 at *
  refine (toReqS_c B m d 0 hi ws w3 hml.out hm hsw3.out (by omega)).mono ?_
  rintro e w4 ⟨v4, rfl, o4, hb4⟩
  obtain ⟨A4, c4, rfl, _, _, _⟩ := o4.form
  have hz4 := hb4.size
  have hx4 := hx3.below hb4 hx3.lt
  have hr4 := hr3.below hb4 hr3.lt
  have hy4 := hy3.below hb4 hy3.lt
  have hB4 := hB3.trans (hb4.mono (by omega))
  have o34 := hide (o3h.out.below hb4 (Nat.le_refl _))
  have o4h := hide o4
  have hlt4 : Hid (∀ b, (Value.slice A4 ws.length c4).ownBlock = some b → w3.heap.size ≤ b ∧ b < w4.heap.size) := hide (fun b hb => o4.lt b hb)
  obtain ⟨xx0, xx1, xx2, -, -, -⟩ := hx4.cells
  obtain ⟨yy0, yy1, yy2, yg0, yg1, yg2⟩ := hy4.cells
  obtain ⟨ww0, ww1, ww2, wg0, wg1, wg2⟩ := hr4.cells
  clear o4 hb4 o3h
  go_wp2
  refine bodyPost_ret (v := .agg #[.slice A2 ds.length c2, .slice A4 ws.length c4, .int .i64 k]) (by simp [results, Try.results17, go_sem, ww0, ww1, ww2, wg0, wg1, wg2]) rfl ?_
  refine fin_toAhead (w.heap.size + 1) (w.heap.size + 2) w3.heap.size (by (repeat (first | (with_reducible exact Onl.refl _ _ _) | (with_reducible exact Onl.drewL _ _ _) | (with_reducible refine Onl.set ?_ (by simp) _) | with_reducible refine Onl.drew ?_))) hB4 (by omega) (by omega) (by omega) (by omega) o34.out (fun b hb => by have := hlt2.out b hb; omega) (fun b hb => by have := hlt2.out b hb; omega) o4h.out (fun b hb => by have := hlt4.out b hb; omega)
set_option maxRecDepth 100000 in
set_option maxHeartbeats 2000000 in
theorem eqAhead_c (A : Option Addr) (n c : Nat) (B : Option Addr) (m d : Nat) (A' : Option Addr) (n' c' : Nat) (B' : Option Addr) (m' d' : Nat) (k : Int) (lo hi : Nat) (ds ws : List ReqT) (w : World) (hn : n = ds.length) (hm : m = ws.length) (hn' : n' = ds.length) (hm' : m' = ws.length) (hbn : n ≤ 1048576) (hbm : m ≤ 1048576)
    (hA : Sl encReq 5 w lo hi A ds) (hB : Sl encReq 5 w lo hi B ws) (hA' : Sl encReq 5 w lo hi A' ds) (hB' : Sl encReq 5 w lo hi B' ws) (hhi : hi ≤ w.heap.size) :
    Calls Try.prog 19 #[.agg #[.slice A n c, .slice B m d, .int .i64 k], .agg #[.slice A' n' c', .slice B' m' d', .int .i64 k]] w fun e w' => e = .returned (.bool true) ∧ Below w.heap.size w w' := by
  have hAB : Below w.heap.size w ((w.alloc (.cells #[.slice A n c, .slice B m d, .int .i64 k] 41)).alloc (.cells #[.slice A' n' c', .slice B' m' d', .int .i64 k] 41)) := ((Below.refl w.heap.size w).alloc (Nat.le_refl _) _).alloc (by simp) _
  have hx0 : Bx3 ((w.alloc (.cells #[.slice A n c, .slice B m d, .int .i64 k] 41)).alloc (.cells #[.slice A' n' c', .slice B' m' d', .int .i64 k] 41)) w.heap.size (.slice A n c) (.slice B m d) (.int .i64 k) 41 := (Bx3.made w (.slice A n c) (.slice B m d) (.int .i64 k) 41).alloc _
  have hy0 : Bx3 ((w.alloc (.cells #[.slice A n c, .slice B m d, .int .i64 k] 41)).alloc (.cells #[.slice A' n' c', .slice B' m' d', .int .i64 k] 41)) (w.heap.size + 1) (.slice A' n' c') (.slice B' m' d') (.int .i64 k) 41 := Bx3.newE (by simp)
  have hz1 : w.heap.size + 2 ≤ ((w.alloc (.cells #[.slice A n c, .slice B m d, .int .i64 k] 41)).alloc (.cells #[.slice A' n' c', .slice B' m' d', .int .i64 k] 41)).heap.size := by simp only [World.size_alloc]; omega
  have h1 := hide (hA.below hAB hhi)
  have h2 := hide (hB.below hAB hhi)
  have h3 := hide (hA'.below hAB hhi)
  have h4 := hide (hB'.below hAB hhi)
  have e1 := hide hn
  have e2 := hide hm
  have e3 := hide hn'
  have e4 := hide hm'
  clear hA hB hA' hB' hn hm hn' hm'
  go_enter Try.func19, Try.ntmps19
  go_wp2_with fail
  generalize (w.alloc (.cells #[.slice A n c, .slice B m d, .int .i64 k] 41)).alloc (.cells #[.slice A' n' c', .slice B' m' d', .int .i64 k] 41) = w1 at *
  refine (eqReqS_c A A' n n' c c' lo hi lo hi ds ds w1 e1.out e3.out hbn (by have := e1.out; have := e3.out; omega) h1.out h3.out (by omega) (by omega)).mono ?_
  rintro e w2 ⟨rfl, hb2⟩
  rw [decide_eq_true (rfl : ds = ds)]
  have hz2 := hb2.size
  have hx2 := hx0.below hb2 hx0.lt
  have hy2 := hy0.below hb2 hy0.lt
  have hB2 := hAB.trans (hb2.mono (by omega))
  obtain ⟨xx0, xx1, xx2, -, -, -⟩ := hx2.cells
  obtain ⟨yy0, yy1, yy2, -, -, -⟩ := hy2.cells
  have h2' := hide (h2.out.below hb2 (by omega))
  have h4' := hide (h4.out.below hb2 (by omega))
  go_wp2_with fail
  refine (eqReqS_c B B' m m' d d' lo hi lo hi ws ws w2 e2.out e4.out hbm (by have := e2.out; have := e4.out; omega) h2'.out h4'.out (by omega) (by omega)).mono ?_
  rintro e w3 ⟨rfl, hb3⟩
  rw [decide_eq_true (rfl : ws = ws)]
  have hx3 := hx2.below hb3 hx2.lt
  have hy3 := hy2.below hb3 hy2.lt
  have hB3 := hB2.trans (hb3.mono (by omega))
  clear xx0 xx1 xx2 yy0 yy1 yy2
  obtain ⟨xx0, xx1, xx2, -, -, -⟩ := hx3.cells
  obtain ⟨yy0, yy1, yy2, -, -, -⟩ := hy3.cells
  go_wp2
  go_ret
  exact ⟨rfl, hB3⟩
set_option maxRecDepth 100000 in
set_option maxHeartbeats 2000000 in
theorem markAhead_c (A : Option Addr) (n c : Nat) (B : Option Addr) (m d : Nat) (k : Int) (lo K : Nat) (ds ws : List ReqT) (w : World) (hn : n = ds.length) (hm : m = ws.length) (hbn : n ≤ 1048576) (hbm : m ≤ 1048576) (hlo : lo ≤ K)
    (hA : Own encReq 5 48 w lo (.slice A n c) ds) (hAK : ∀ b, (Value.slice A n c).ownBlock = some b → b < K) (hB : Own encReq 5 48 w K (.slice B m d) ws) (hw : lo ≤ w.heap.size) :
    Calls Try.prog 20 #[.agg #[.slice A n c, .slice B m d, .int .i64 k], .int .i64 1] w fun e w' => e = .returned (.int .i64 (1 + 5 * (n : Int) + 5 * (m : Int))) ∧ Below lo w w' ∧ (∀ b, b < w.heap.size → (Value.slice A n c).ownBlock ≠ some b → (Value.slice B m d).ownBlock ≠ some b → w'.heap[b]? = w.heap[b]?) := by
  have hA0 := (Below.refl w.heap.size w).alloc (Nat.le_refl _) (.cells #[.slice A n c, .slice B m d, .int .i64 k] 41)
  have hx0 := Bx3.made w (.slice A n c) (.slice B m d) (.int .i64 k) 41
  have hz1 : w.heap.size + 1 ≤ (w.alloc (.cells #[.slice A n c, .slice B m d, .int .i64 k] 41)).heap.size := by simp only [World.size_alloc]; omega
  have hlA : Hid (∀ b, (Value.slice A n c).ownBlock = some b → lo ≤ b ∧ b < K ∧ b < w.heap.size) := hide (fun b hb => ⟨(hA.lt b hb).1, hAK b hb, (hA.lt b hb).2⟩)
  have hlB : Hid (∀ b, (Value.slice B m d).ownBlock = some b → K ≤ b ∧ b < w.heap.size) := hide (fun b hb => hB.lt b hb)
  have hA1 := hide (hA.below hA0 (Nat.le_refl _))
  have hB1 := hide (hB.below hA0 (Nat.le_refl _))
  have e1 := hide hn
  have e2 := hide hm
  clear hA hB hn hm hAK
  go_enter Try.func20, Try.ntmps20
  go_wp2_with fail
  generalize w.alloc (.cells #[.slice A n c, .slice B m d, .int .i64 k] 41) = w1 at *
  refine (markReqS_c A n c lo 1 ds w1 e1.out hbn (by omega) (by omega) hA1.out).mono ?_
  rintro e w2 ⟨rfl, -, hb2⟩
  have hz2 := hb2.size
  have hx2 := hx0.keep (hb2.block w.heap.size (by omega) (fun e => by have := (hlA.out _ e).2.2; omega))
  obtain ⟨xx0, xx1, xx2, -, -, -⟩ := hx2.cells
  have hB2 := hide (hB1.out.keep (fun b hb => hb2.block b (by have := (hlB.out b hb).2; omega) (fun e => by have := (hlA.out b e).2.1; have := (hlB.out b hb).1; omega)))
  have hL2 := hide ((hA0.mono hw).trans (hb2.toBelow (B' := lo) (by omega) (fun k hk => (hlA.out k hk).1)))
  go_wp2_with fail
  refine (markReqS_c B m d K (1 + 5 * (n : Int)) ws w2 e2.out hbm (by omega) (by omega) hB2.out).mono ?_
  rintro e w3 ⟨rfl, -, hb3⟩
  have hL3 := hide (hL2.out.trans (hb3.toBelow (B' := lo) (by have := hL2.out.size; omega) (fun k hk => by have := (hlB.out k hk).1; omega)))
  go_wp2
  go_ret
  exact ⟨rfl, hL3.out, fun b hb h1 h2 => (hb3.block b (by omega) h2).trans ((hb2.block b (by omega) h1).trans (hA0.block b hb))⟩
end Go.Proofs.Ytipdkcdhnppdoaa
