/-
  What 'LAc' rests on (texts of this seat put together: NR).
  Conditions: none.
-/
import Derived.Test.YtopmbnnjhoinkaaGreatZZ17
namespace Go.Proofs.YtopmbnnjhoinkaaGreat
open Go.RowKit Rg
set_option linter.unusedVariables false
set_option linter.unusedSimpArgs false
set_option maxHeartbeats 1000000
def alike2 (c d : ClaimT) : Bool := (c.2.1 == d.2.1) && (c.1 == d.1)
def goodT (ts : List ClaimT) (i : Nat) : Prop := ∃ h : i < ts.length, okCl ts[i] = true ∧ ∀ (j : Nat) (hj : j < i), alike2 ts[j] ts[i] = false
def okTook (ts : List ClaimT) : Prop := ∀ i, i < ts.length → goodT ts i
instance (ts : List ClaimT) (i : Nat) : Decidable (goodT ts i) := by unfold goodT; infer_instance
instance (ts : List ClaimT) : Decidable (okTook ts) := by unfold okTook; infer_instance
theorem not_okTook {ts : List ClaimT} {i : Nat} (hi : i < ts.length) (h : ¬ goodT ts i) : decide (okTook ts) = false := by
  simp only [decide_eq_false_iff_not]; exact fun hq => h (hq i hi)
theorem is_okTook {ts : List ClaimT} {n : Nat} (hn : n = ts.length) (h : ∀ i, i < n → goodT ts i) : decide (okTook ts) = true := by
  subst hn; simp only [decide_eq_true_eq]; exact h
def okH (m : MsgT) : Bool := okMsg m && inB m.1 3 5
def okRep (t : RepT) : Bool := decide (okTook t.2.2.2.2.1) && (t.2.2.2.2.2.1.all okH && (inB t.1 0 3 && (inB t.2.1 0 6 && (inB t.2.2.2.1 1 6 && (decide (okCls t.2.2.2.2.2.2) && (decide (t.2.2.2.2.1.length ≤ 40) && decide (t.2.2.2.2.2.1.length ≤ 120)))))))
theorem all_no {α : Type} {f : α → Bool} {ts : List α} {k : Nat} (hk : k < ts.length) (h : f ts[k] = false) : ts.all f = false := by
  rw [List.all_eq_false]
  exact ⟨ts[k], List.getElem_mem hk, by simp [h]⟩
theorem all_yes {α : Type} {f : α → Bool} {ts : List α} {n : Nat} (hn : n = ts.length) (h : ∀ (i : Nat) (hi : i < ts.length), i < n → f ts[i] = true) : ts.all f = true := by
  rw [List.all_eq_true]
  intro x hx
  obtain ⟨j, hj, rfl⟩ := List.mem_iff_getElem.1 hx
  exact h j hj (by omega)
set_option maxRecDepth 100000 in
set_option maxHeartbeats 4000000 in
theorem l5Ok_c (t : RepT) (A B E : Option Addr) (n c p d q f : Nat) (lo hi : Nat) (w : World) (h0 : RdN 7 clR w lo hi A n c t.2.2.2.2.1) (h1 : RdN 11 msgR w lo hi B p d t.2.2.2.2.2.1) (h2 : RdN 7 clR w lo hi E q f t.2.2.2.2.2.2) (hhi : hi ≤ w.heap.size) :
    Calls Tryz.prog 27 #[.agg #[.int .i64 t.1, .int .i64 t.2.1, .bool t.2.2.1, .int .i64 t.2.2.2.1, .slice A n c, .slice B p d, .slice E q f]] w fun e w' => e = .returned (.bool (okRep t)) ∧ Below w.heap.size w w' := by
  have hB0 : Below w.heap.size w (w.alloc (.cells #[.int .i64 t.1, .int .i64 t.2.1, .bool t.2.2.1, .int .i64 t.2.2.2.1, .slice A n c, .slice B p d, .slice E q f] 31)) := (Below.refl _ _).alloc (Nat.le_refl _) _
  have hn' := hide h0.len
  have hp' := hide h1.len
  have hc1 := h0.cap
  have hc2 := h0.max
  have hd1 := h1.cap
  have hd2 := h1.max
  have hq1 := h2.cap
  have hq2 := h2.max
  unfold maxLen at hc2 hd2 hq2
  have x0 : (w.alloc (.cells #[.int .i64 t.1, .int .i64 t.2.1, .bool t.2.2.1, .int .i64 t.2.2.2.1, .slice A n c, .slice B p d, .slice E q f] 31)).cell? ⟨w.heap.size, 0, none⟩ = some (.int .i64 t.1) := by simp
  have x1 : (w.alloc (.cells #[.int .i64 t.1, .int .i64 t.2.1, .bool t.2.2.1, .int .i64 t.2.2.2.1, .slice A n c, .slice B p d, .slice E q f] 31)).cell? ⟨w.heap.size, 1, none⟩ = some (.int .i64 t.2.1) := by simp
  have x2 : (w.alloc (.cells #[.int .i64 t.1, .int .i64 t.2.1, .bool t.2.2.1, .int .i64 t.2.2.2.1, .slice A n c, .slice B p d, .slice E q f] 31)).cell? ⟨w.heap.size, 2, none⟩ = some (.bool t.2.2.1) := by simp
  have x3 : (w.alloc (.cells #[.int .i64 t.1, .int .i64 t.2.1, .bool t.2.2.1, .int .i64 t.2.2.2.1, .slice A n c, .slice B p d, .slice E q f] 31)).cell? ⟨w.heap.size, 3, none⟩ = some (.int .i64 t.2.2.2.1) := by simp
  have x4 : (w.alloc (.cells #[.int .i64 t.1, .int .i64 t.2.1, .bool t.2.2.1, .int .i64 t.2.2.2.1, .slice A n c, .slice B p d, .slice E q f] 31)).cell? ⟨w.heap.size, 4, none⟩ = some (.slice A n c) := by simp
  have x5 : (w.alloc (.cells #[.int .i64 t.1, .int .i64 t.2.1, .bool t.2.2.1, .int .i64 t.2.2.2.1, .slice A n c, .slice B p d, .slice E q f] 31)).cell? ⟨w.heap.size, 5, none⟩ = some (.slice B p d) := by simp
  have x6 : (w.alloc (.cells #[.int .i64 t.1, .int .i64 t.2.1, .bool t.2.2.1, .int .i64 t.2.2.2.1, .slice A n c, .slice B p d, .slice E q f] 31)).cell? ⟨w.heap.size, 6, none⟩ = some (.slice E q f) := by simp
  have hl : w.heap.size < (w.alloc (.cells #[.int .i64 t.1, .int .i64 t.2.1, .bool t.2.2.1, .int .i64 t.2.2.2.1, .slice A n c, .slice B p d, .slice E q f] 31)).heap.size := by simp
  have z1 : Hid (decide (t.2.2.2.2.1.length ≤ 40) = decide ((n : Int) ≤ 40)) := hide (by rw [← hn'.out, Bool.eq_iff_iff]; simp; omega)
  have z2 : Hid (decide (t.2.2.2.2.2.1.length ≤ 120) = decide ((p : Int) ≤ 120)) := hide (by rw [← hp'.out, Bool.eq_iff_iff]; simp; omega)
  go_enter Tryz.func27, Tryz.ntmps27
  go_wp2
  generalize w.alloc (.cells #[.int .i64 t.1, .int .i64 t.2.1, .bool t.2.2.1, .int .i64 t.2.2.2.1, .slice A n c, .slice B p d, .slice E q f] 31) = w0 at *
  go_loopw [3, 4] (fun i _ wr => ∃ k : Nat, k ≤ n ∧ i = .int .i64 k ∧ Hid (∀ i, i < k → goodT t.2.2.2.2.1 i) ∧ Below w0.heap.size w0 wr) (fun i _ _ => n - (intOf i).toNat)
  case atStart => exact ⟨0, Nat.zero_le _, rfl, fun i h => absurd h (by omega), Below.refl _ _⟩
  case round =>
    obtain ⟨k, hk, rfl, hgo, hbr⟩ := hrel
    have hBr := hB0.trans (hbr.mono hB0.size)
    have hzr := hbr.size
    have x0 := keepc hbr x0
    have x1 := keepc hbr x1
    have x2 := keepc hbr x2
    have x3 := keepc hbr x3
    have x4 := keepc hbr x4
    have x5 := keepc hbr x5
    have x6 := keepc hbr x6
    have hlr := Nat.lt_of_lt_of_le hl hzr
    by_cases hlt : k < n
    · have hlx : k < t.2.2.2.2.1.length := by have := hn'.out; omega
      obtain ⟨b, off, rfl, hlo, hbh⟩ := h0.addr hlx
      obtain ⟨a0, a1, a2, a3, a4, a5, a6⟩ := (h0.below (flat_kept _) hBr hhi).claim hlx
      cases e1 : okCl t.2.2.2.2.1[k]
      · have hno := hide (not_okTook hlx (fun ⟨_, h, _⟩ => by rw [e1] at h; cases h))
        go_wp2_with fail
        refine (l3ClaimOk_c t.2.2.2.2.1[k] wr).mono ?_
        rintro e w1 ⟨rfl, hb1⟩
        rw [e1]
        go_wp2
        go_ret
        exact ⟨by simp [okRep, hno.out], hBr.trans (hb1.mono hBr.size)⟩
      · have e1' := hide e1
        go_wp2_with fail
        refine (l3ClaimOk_c t.2.2.2.2.1[k] wr).mono ?_
        rintro e w1 ⟨rfl, hb1⟩
        rw [e1]
        have x0 := keepc hb1 x0; have x1 := keepc hb1 x1; have x2 := keepc hb1 x2; have x3 := keepc hb1 x3; have x4 := keepc hb1 x4; have x5 := keepc hb1 x5; have x6 := keepc hb1 x6
        have a0 := keepc hb1 a0
        have a1 := keepc hb1 a1
        have hB1 := hBr.trans (hb1.mono hBr.size)
        have hr1 := hbr.trans (hb1.mono hzr)
        go_wp2
        go_loopw [4] (fun kk wr2 => ∃ j : Nat, j ≤ k ∧ kk = .int .i64 j ∧ Hid (∀ (i : Nat) (hi : i < j) (hx : i < t.2.2.2.2.1.length), alike2 t.2.2.2.2.1[i] t.2.2.2.2.1[k] = false) ∧ Below w1.heap.size w1 wr2) (fun kk _ => k - (intOf kk).toNat)
        case atStart => exact ⟨0, Nat.zero_le _, rfl, fun i h => absurd h (by omega), Below.refl _ _⟩
        case round =>
          obtain ⟨j, hj, rfl, hun, hbs⟩ := hrel
          have hBs := hB1.trans (hbs.mono hB1.size)
          have hrs := hr1.trans (hbs.mono hr1.size)
          have x0 := keepc hbs x0; have x1 := keepc hbs x1; have x2 := keepc hbs x2; have x3 := keepc hbs x3; have x4 := keepc hbs x4; have x5 := keepc hbs x5; have x6 := keepc hbs x6
          have a0 := keepc hbs a0
          have a1 := keepc hbs a1
          by_cases hjk : j < k
          · have hjx : j < t.2.2.2.2.1.length := by omega
            obtain ⟨p0, p1, _⟩ := (h0.below (flat_kept _) hBs hhi).claim hjx
            cases e2 : (t.2.2.2.2.1[j].2.1 == t.2.2.2.2.1[k].2.1)
            · have hun' := hide e2
              go_wp2
              refine wp_region_T (fun _ => True) [] [] [] [0, 1, 2, 3, 4, 5, 6, 7, 8, 9, 10, 11, 12, 13, 14, 15, 16, 17, 18, 19, 20, 21, 22, 23, 24, 25, 26, 27] (by kernel_rfl) (by kernel_rfl) (by kernel_rfl) trivial ?_; simp only [pickL, List.getElem?_cons_succ, List.getElem?_cons_zero]
              go_wp2_with (first
                | ((refine no_implicit_lambda% (g24_ ?_)); intro K hK) | (refine no_implicit_lambda% (g1_ ?_)) | ((refine no_implicit_lambda% (g2_ ?_)); intro K hK) | (refine no_implicit_lambda% (g3_ ?_))
                | fail)
              go_roundw
              case rel => exact ⟨j + 1, by omega, by go_num, hide (fun i hi hx => by
                by_cases h2 : i < j
                · exact hun.out i h2 hx
                · obtain rfl : i = j := by omega
                  simp [alike2, hun'.out]), hbs.drew⟩
              case measure => simp [intOf]; omega
            · cases e3 : (t.2.2.2.2.1[j].1 == t.2.2.2.2.1[k].1)
              · have hun' := hide e3
                go_wp2
                refine wp_region_T (fun _ => True) [] [] [] [0, 1, 2, 3, 4, 5, 6, 7, 8, 9, 10, 11, 12, 13, 14, 15, 16, 17, 18, 19, 20, 21, 22, 23, 24, 25, 26, 27] (by kernel_rfl) (by kernel_rfl) (by kernel_rfl) trivial ?_; simp only [pickL, List.getElem?_cons_succ, List.getElem?_cons_zero]
                go_wp2_with (first
                  | ((refine no_implicit_lambda% (g24_ ?_)); intro K hK) | (refine no_implicit_lambda% (g1_ ?_)) | ((refine no_implicit_lambda% (g2_ ?_)); intro K hK) | (refine no_implicit_lambda% (g3_ ?_))
                  | fail)
                go_roundw
                case rel => exact ⟨j + 1, by omega, by go_num, hide (fun i hi hx => by
                  by_cases h2 : i < j
                  · exact hun.out i h2 hx
                  · obtain rfl : i = j := by omega
                    simp [alike2, hun'.out]), hbs.drew⟩
                case measure => simp [intOf]; omega
              · have hno := hide (not_okTook hlx (fun ⟨_, _, h⟩ => by have := h j hjk; simp [alike2, e2, e3] at this))
                go_wp2
                refine wp_region_T (fun _ => True) [] [] [] [0, 1, 2, 3, 4, 5, 6, 7, 8, 9, 10, 11, 12, 13, 14, 15, 16, 17, 18, 19, 20, 21, 22, 23, 24, 25, 26, 27] (by kernel_rfl) (by kernel_rfl) (by kernel_rfl) trivial ?_; simp only [pickL, List.getElem?_cons_succ, List.getElem?_cons_zero]
                go_wp2_with (first
                  | ((refine no_implicit_lambda% (g24_ ?_)); intro K hK) | (refine no_implicit_lambda% (g1_ ?_)) | ((refine no_implicit_lambda% (g2_ ?_)); intro K hK) | (refine no_implicit_lambda% (g3_ ?_))
                  | fail)
                go_ret
                exact ⟨by simp [okRep, hno.out], hBs.drew⟩
          · obtain rfl : j = k := by omega
            have hyes : Hid (goodT t.2.2.2.2.1 j) := hide ⟨hlx, e1'.out, fun i hi => hun.out i hi (by omega)⟩
            go_wp2
            go_roundw
            case rel => exact ⟨j + 1, by omega, by go_num, hide (allTo_succ hgo.out hyes.out), hrs⟩
            case measure => simp [intOf]; omega
    · obtain rfl : k = n := by omega
      have htook := hide (is_okTook hn'.out hgo.out)
      go_wp2
      go_loopw [5] (fun i ws => ∃ k : Nat, k ≤ p ∧ i = .int .i64 k ∧ Hid (∀ (i : Nat) (hi : i < t.2.2.2.2.2.1.length), i < k → okH t.2.2.2.2.2.1[i] = true) ∧ Below wr.heap.size wr ws) (fun i _ => p - (intOf i).toNat)
      case atStart => exact ⟨0, Nat.zero_le _, rfl, fun i _ h => absurd h (by omega), Below.refl _ _⟩
      case round =>
        obtain ⟨k, hk, rfl, hho, hbs⟩ := hrel
        have hBs := hBr.trans (hbs.mono hBr.size)
        have hzs := hbs.size
        have x0 := keepc hbs x0; have x1 := keepc hbs x1; have x2 := keepc hbs x2; have x3 := keepc hbs x3; have x4 := keepc hbs x4; have x5 := keepc hbs x5; have x6 := keepc hbs x6
        by_cases hlt : k < p
        · have hlx : k < t.2.2.2.2.2.1.length := by have := hp'.out; omega
          obtain ⟨b, off, rfl, hlo, hbh⟩ := h1.addr hlx
          obtain ⟨A1, n1, c1, B1, p1, d1, a0, a1, a2, a3, a4, a5, a6, a7, a8, a9, a10, r0, r1⟩ := (h1.below msg_kept hBs hhi).msg hlx
          cases e1 : okMsg t.2.2.2.2.2.1[k]
          · have hno : Hid (t.2.2.2.2.2.1.all okH = false) := hide (all_no hlx (by simp [okH, e1]))
            go_wp2_with fail
            refine (l3Ok_c t.2.2.2.2.2.1[k] A1 B1 n1 c1 p1 d1 lo hi wr r0 r1 (by have := hBs.size; omega)).mono ?_
            rintro e w1 ⟨rfl, hb1⟩
            rw [e1]
            go_wp2
            go_ret
            exact ⟨by simp [okRep, hno.out], hBs.trans (hb1.mono hBs.size)⟩
          · cases e2 : inB t.2.2.2.2.2.1[k].1 3 5
            · have hno : Hid (t.2.2.2.2.2.1.all okH = false) := hide (all_no hlx (by simp [okH, e2]))
              go_wp2_with fail
              refine (l3Ok_c t.2.2.2.2.2.1[k] A1 B1 n1 c1 p1 d1 lo hi wr r0 r1 (by have := hBs.size; omega)).mono ?_
              rintro e w1 ⟨rfl, hb1⟩
              rw [e1]
              have x0 := keepc hb1 x0; have x1 := keepc hb1 x1; have x2 := keepc hb1 x2; have x3 := keepc hb1 x3; have x4 := keepc hb1 x4; have x5 := keepc hb1 x5; have x6 := keepc hb1 x6
              have a0 := keepc hb1 a0
              go_wp2_with fail
              refine (l1In_c _ _ _ _).mono ?_
              rintro e w2 ⟨rfl, rfl⟩
              rw [e2]
              go_wp2
              go_ret
              exact ⟨by simp [okRep, hno.out], hBs.trans (hb1.mono hBs.size)⟩
            · have hyes : Hid (okH t.2.2.2.2.2.1[k] = true) := hide (by simp [okH, e1, e2])
              go_wp2_with fail
              refine (l3Ok_c t.2.2.2.2.2.1[k] A1 B1 n1 c1 p1 d1 lo hi wr r0 r1 (by have := hBs.size; omega)).mono ?_
              rintro e w1 ⟨rfl, hb1⟩
              rw [e1]
              have x0 := keepc hb1 x0; have x1 := keepc hb1 x1; have x2 := keepc hb1 x2; have x3 := keepc hb1 x3; have x4 := keepc hb1 x4; have x5 := keepc hb1 x5; have x6 := keepc hb1 x6
              have a0 := keepc hb1 a0
              go_wp2_with fail
              refine (l1In_c _ _ _ _).mono ?_
              rintro e w2 ⟨rfl, rfl⟩
              rw [e2]
              go_wp2
              go_roundw
              case rel => exact ⟨k + 1, by omega, by go_num, hide (fun i hi hik => by
                by_cases h2 : i < k
                · exact hho.out i hi h2
                · obtain rfl : i = k := by omega
                  exact hyes.out), hbs.trans (hb1.mono hzs)⟩
              case measure => simp [intOf]; omega
        · obtain rfl : k = p := by omega
          have hheard := hide (all_yes hp'.out hho.out)
          have hkc := hide (fun W (h : Below w.heap.size w W) => l3ClaimsOk_c E q f lo hi t.2.2.2.2.2.2 W (h2.below (flat_kept _) h hhi) (Nat.le_trans hhi h.size))
          have hB := hBs
          clear hgo hho
          cases f1 : inB t.1 0 3 <;> cases f2 : inB t.2.1 0 6 <;> cases f3 : inB t.2.2.2.1 1 6
          all_goals
            have f1' := hide f1
            have f2' := hide f2
            have f3' := hide f3
            go_wp2_with (first
              | (go_at_call 26; refine (l1In_c _ _ _ _).mono ?_; rintro e w' ⟨rfl, rfl⟩; first | rw [f1] | rw [f2] | rw [f3])
              | (go_at_call 52; refine (hkc.out _ hB).mono ?_; rintro e w3 ⟨rfl, hb3⟩; have hB := hB.trans (hb3.mono hB.size); have x4 := keepc hb3 x4; have x5 := keepc hb3 x5)
              | fail)
            all_goals
              go_ret
              refine ⟨congrArg (fun b => Ending.returned (.bool b)) ?_, hB⟩
              have y1 := htook.out
              have y2 := hheard.out
              simp only [okRep, y1, y2, f1'.out, f2'.out, f3'.out, z1.out, z2.out]
              clear y1 y2 z1 z2 htook hheard
              first | (simp [*]; done) | (simp [*]; intros; omega)
end Go.Proofs.YtopmbnnjhoinkaaGreat
