/-
  What 'LAc' rests on (texts of this seat put together: NT).
  Conditions: none.
-/
import Derived.Test.YtopmbnnjhoinkaaGreatZZ19
namespace Go.Proofs.YtopmbnnjhoinkaaGreat
open Go.RowKit Rg
set_option linter.unusedVariables false
set_option linter.unusedSimpArgs false
set_option maxHeartbeats 1000000
def goodRp (ts : List RepT) (i : Nat) : Prop := ∃ h : i < ts.length, okRep ts[i] = true ∧ ts[i].1 = (i : Int)
def okReps (ts : List RepT) : Prop := ∀ i, i < ts.length → goodRp ts i
instance (ts : List RepT) (i : Nat) : Decidable (goodRp ts i) := by unfold goodRp; infer_instance
instance (ts : List RepT) : Decidable (okReps ts) := by unfold okReps; infer_instance
theorem not_okReps {ts : List RepT} {i : Nat} (hi : i < ts.length) (h : ¬ goodRp ts i) : decide (okReps ts) = false := by
  simp only [decide_eq_false_iff_not]; exact fun hq => h (hq i hi)
theorem is_okReps {ts : List RepT} {n : Nat} (hn : n = ts.length) (h : ∀ i, i < n → goodRp ts i) : decide (okReps ts) = true := by
  subst hn; simp only [decide_eq_true_eq]; exact h
def okWorld (t : WorldT) : Bool := inB t.1 0 3 && (decide (t.2.1.length = 4) && (decide (t.2.2.length ≤ 100) && (decide (okReps t.2.1) && t.2.2.all okMsg)))
set_option maxRecDepth 100000 in
set_option maxHeartbeats 4000000 in
theorem l6Ok_c (t : WorldT) (A B : Option Addr) (n c p d : Nat) (lo hi : Nat) (w : World) (h0 : RdN 7 repR w lo hi A n c t.2.1) (h1 : RdN 11 msgR w lo hi B p d t.2.2) (hhi : hi ≤ w.heap.size) :
    Calls Tryz.prog 12 #[.agg #[.int .i64 t.1, .slice A n c, .slice B p d]] w fun e w' => e = .returned (.bool (okWorld t)) ∧ Below w.heap.size w w' := by
  have hB : Below w.heap.size w (w.alloc (.cells #[.int .i64 t.1, .slice A n c, .slice B p d] 26)) := (Below.refl _ _).alloc (Nat.le_refl _) _
  have hn' := hide h0.len
  have hp' := hide h1.len
  have hc1 := h0.cap
  have hc2 := h0.max
  have hd1 := h1.cap
  have hd2 := h1.max
  unfold maxLen at hc2 hd2
  have x0 : (w.alloc (.cells #[.int .i64 t.1, .slice A n c, .slice B p d] 26)).cell? ⟨w.heap.size, 0, none⟩ = some (.int .i64 t.1) := by simp
  have x1 : (w.alloc (.cells #[.int .i64 t.1, .slice A n c, .slice B p d] 26)).cell? ⟨w.heap.size, 1, none⟩ = some (.slice A n c) := by simp
  have x2 : (w.alloc (.cells #[.int .i64 t.1, .slice A n c, .slice B p d] 26)).cell? ⟨w.heap.size, 2, none⟩ = some (.slice B p d) := by simp
  have z1 : Hid (decide (t.2.1.length = 4) = ((n : Int) == 4)) := hide (by rw [← hn'.out, Bool.eq_iff_iff]; simp; omega)
  have z2 : Hid (decide (t.2.2.length ≤ 100) = decide ((p : Int) ≤ 100)) := hide (by rw [← hp'.out, Bool.eq_iff_iff]; simp; omega)
  have g2 : decide (100 < (p : Int)) = !decide ((p : Int) ≤ 100) := by rw [Bool.eq_iff_iff]; simp
  have g1 : ((n : Int) != 4) = !((n : Int) == 4) := rfl
  cases f1 : inB t.1 0 3
  · have hr : Hid (okWorld t = false) := hide (by
      have y1 := z1.out
      have y2 := z2.out
      simp only [okWorld, y1, y2, f1]; simp)
    go_enter Tryz.func12, Tryz.ntmps12
    go_wp2_with (go_at_call 26; refine (l1In_c _ _ _ _).mono ?_; rintro e w' ⟨rfl, rfl⟩; rw [f1])
    go_ret
    exact ⟨by rw [hr.out]; rfl, hB⟩
  cases f2 : ((n : Int) == 4)
  · have hr : Hid (okWorld t = false) := hide (by
      have y1 := z1.out
      have y2 := z2.out
      simp only [okWorld, y1, y2, f1, f2]; simp)
    rw [f2] at g1
    clear f2
    go_enter Tryz.func12, Tryz.ntmps12
    go_wp2_with (go_at_call 26; refine (l1In_c _ _ _ _).mono ?_; rintro e w' ⟨rfl, rfl⟩; rw [f1])
    go_ret
    exact ⟨by rw [hr.out]; rfl, hB⟩
  cases f3 : decide ((p : Int) ≤ 100)
  · have hr : Hid (okWorld t = false) := hide (by
      have y1 := z1.out
      have y2 := z2.out
      simp only [okWorld, y1, y2, f1, f2, f3]; simp)
    rw [f2] at g1
    rw [f3] at g2
    clear f2 f3
    go_enter Tryz.func12, Tryz.ntmps12
    go_wp2_with (go_at_call 26; refine (l1In_c _ _ _ _).mono ?_; rintro e w' ⟨rfl, rfl⟩; rw [f1])
    go_ret
    exact ⟨by rw [hr.out]; rfl, hB⟩
  have hr : Hid (okWorld t = (decide (okReps t.2.1) && t.2.2.all okMsg)) := hide (by
    have y1 := z1.out
    have y2 := z2.out
    simp only [okWorld, y1, y2, f1, f2, f3]; simp)
  rw [f2] at g1
  rw [f3] at g2
  clear f2 f3
  go_enter Tryz.func12, Tryz.ntmps12
  go_wp2_with (go_at_call 26; refine (l1In_c _ _ _ _).mono ?_; rintro e w' ⟨rfl, rfl⟩; rw [f1])
  generalize w.alloc (.cells #[.int .i64 t.1, .slice A n c, .slice B p d] 26) = w0 at *
  go_loopw [3] (fun i wr => ∃ k : Nat, k ≤ n ∧ i = .int .i64 k ∧ Hid (∀ i, i < k → goodRp t.2.1 i) ∧ Below w0.heap.size w0 wr) (fun i _ => n - (intOf i).toNat)
  case atStart => exact ⟨0, Nat.zero_le _, rfl, fun i h => absurd h (by omega), Below.refl _ _⟩
  case round =>
    obtain ⟨k, hk, rfl, hgo, hbr⟩ := hrel
    have hBr := hB.trans (hbr.mono hB.size)
    have hzr := hbr.size
    have x0 := keepc hbr x0; have x1 := keepc hbr x1; have x2 := keepc hbr x2
    by_cases hlt : k < n
    · have hlx : k < t.2.1.length := by have := hn'.out; omega
      obtain ⟨b, off, rfl, hlo, hbh⟩ := h0.addr hlx
      obtain ⟨A1, n1, c1, B1, p1, d1, E1, q1, u1, a0, a1, a2, a3, a4, a5, a6, r0, r1, r2⟩ := (h0.below rep_kept hBr hhi).rep hlx
      have hrk := hide (l5Ok_c t.2.1[k] A1 B1 E1 n1 c1 p1 d1 q1 u1 lo hi wr r0 r1 r2 (Nat.le_trans hhi hBr.size))
      cases e1 : okRep t.2.1[k]
      · have hno := hide (not_okReps hlx (fun ⟨_, h, _⟩ => by rw [e1] at h; cases h))
        go_wp2_with fail
        refine hrk.out.mono ?_
        rintro e w1 ⟨rfl, hb1⟩
        rw [e1]
        go_wp2
        go_ret
        exact ⟨by rw [hr.out, hno.out]; rfl, hBr.trans (hb1.mono hBr.size)⟩
      · cases e2 : (t.2.1[k].1 != (k : Int))
        · have hyes : Hid (goodRp t.2.1 k) := hide ⟨hlx, e1, by simpa using e2⟩
          go_wp2_with fail
          refine hrk.out.mono ?_
          rintro e w1 ⟨rfl, hb1⟩
          rw [e1]
          have x0 := keepc hb1 x0; have x1 := keepc hb1 x1; have x2 := keepc hb1 x2
          have a0 := keepc hb1 a0
          go_wp2
          go_roundw
          case rel => exact ⟨k + 1, by omega, by go_num, hide (allTo_succ hgo.out hyes.out), hbr.trans (hb1.mono hzr)⟩
          case measure => simp [intOf]; omega
        · have hno := hide (not_okReps hlx (fun ⟨_, _, h⟩ => by simp [h] at e2))
          go_wp2_with fail
          refine hrk.out.mono ?_
          rintro e w1 ⟨rfl, hb1⟩
          rw [e1]
          have x0 := keepc hb1 x0; have x1 := keepc hb1 x1; have x2 := keepc hb1 x2
          have a0 := keepc hb1 a0
          go_wp2
          go_ret
          exact ⟨by rw [hr.out, hno.out]; rfl, hBr.trans (hb1.mono hBr.size)⟩
    · obtain rfl : k = n := by omega
      have hreps := hide (is_okReps hn'.out hgo.out)
      clear hgo
      go_wp2
      go_loopw [4] (fun i ws => ∃ k : Nat, k ≤ p ∧ i = .int .i64 k ∧ Hid (∀ (i : Nat) (hi : i < t.2.2.length), i < k → okMsg t.2.2[i] = true) ∧ Below wr.heap.size wr ws) (fun i _ => p - (intOf i).toNat)
      case atStart => exact ⟨0, Nat.zero_le _, rfl, fun i _ h => absurd h (by omega), Below.refl _ _⟩
      case round =>
        obtain ⟨k, hk, rfl, hho, hbs⟩ := hrel
        have hBs := hBr.trans (hbs.mono hBr.size)
        have hzs := hbs.size
        have x0 := keepc hbs x0; have x1 := keepc hbs x1; have x2 := keepc hbs x2
        by_cases hlt : k < p
        · have hlx : k < t.2.2.length := by have := hp'.out; omega
          obtain ⟨b, off, rfl, hlo, hbh⟩ := h1.addr hlx
          obtain ⟨A1, n1, c1, B1, p1, d1, a0, a1, a2, a3, a4, a5, a6, a7, a8, a9, a10, r0, r1⟩ := (h1.below msg_kept hBs hhi).msg hlx
          cases e1 : okMsg t.2.2[k]
          · have hno : Hid (t.2.2.all okMsg = false) := hide (all_no hlx e1)
            go_wp2_with fail
            refine (l3Ok_c t.2.2[k] A1 B1 n1 c1 p1 d1 lo hi wr r0 r1 (Nat.le_trans hhi hBs.size)).mono ?_
            rintro e w1 ⟨rfl, hb1⟩
            rw [e1]
            go_wp2
            go_ret
            exact ⟨congrArg (fun b => Ending.returned (.bool b)) (by rw [hr.out, hno.out]; simp), hBs.trans (hb1.mono hBs.size)⟩
          · have hyes := hide e1
            go_wp2_with fail
            refine (l3Ok_c t.2.2[k] A1 B1 n1 c1 p1 d1 lo hi wr r0 r1 (Nat.le_trans hhi hBs.size)).mono ?_
            rintro e w1 ⟨rfl, hb1⟩
            rw [e1]
            go_wp2
            go_roundw
            case rel => exact ⟨k + 1, by omega, by go_num, hide (fun i hi hik => by
              by_cases h2 : i < k
              · exact hho.out i hi h2
              · obtain rfl : i = k := by omega
                exact hyes.out), hbs.trans (hb1.mono hzs)⟩
            case measure => simp [intOf]; omega
        · obtain rfl : k = p := by omega
          have hsaid := hide (all_yes hp'.out hho.out)
          go_wp2
          go_ret
          exact ⟨congrArg (fun b => Ending.returned (.bool b)) (by rw [hr.out, hreps.out, hsaid.out]; rfl), hBs⟩
theorem worldOk1_c (t : MsgT) (A B : Option Addr) (n c p d lo hi : Nat) (w : World) (h0 : RdN 7 clR w lo hi A n c t.2.2.2.2.2.1) (h1 : RdN 2 voteR w lo hi B p d t.2.2.2.2.2.2) (hhi : hi ≤ w.heap.size) :
    Calls Tryz.prog 22 #[.agg #[.int .i64 t.1, .int .i64 t.2.1, .int .i64 t.2.2.1, .int .i64 t.2.2.2.1, .int .i64 t.2.2.2.2.1.1, .int .i64 t.2.2.2.2.1.2.1, .int .i64 t.2.2.2.2.1.2.2.1, .int .i64 t.2.2.2.2.1.2.2.2.1, .int .i64 t.2.2.2.2.1.2.2.2.2, .slice A n c, .slice B p d]] w fun e w' => e = .returned (.bool (!okMsg t)) ∧ Below w.heap.size w w' := by
  have hA := (Below.refl w.heap.size w).alloc (Nat.le_refl _) (.cells #[.int .i64 t.1, .int .i64 t.2.1, .int .i64 t.2.2.1, .int .i64 t.2.2.2.1, .int .i64 t.2.2.2.2.1.1, .int .i64 t.2.2.2.2.1.2.1, .int .i64 t.2.2.2.2.1.2.2.1, .int .i64 t.2.2.2.2.1.2.2.2.1, .int .i64 t.2.2.2.2.1.2.2.2.2, .slice A n c, .slice B p d] 46)
  have hz := hA.size
  go_enter Tryz.func22, Tryz.ntmps22
  go_wp2_with (go_at_call 23; refine (MsgOkT_c t A B n c p d lo hi _ (h0.below (flat_kept _) hA hhi) (h1.below vote_kept hA hhi) (Nat.le_trans hhi hz)).mono ?_; rintro e w1 ⟨rfl, hb1⟩)
  go_ret
  exact ⟨rfl, hA.trans (hb1.mono hz)⟩
theorem index_worldOk (A : Option Addr) (n c lo hi : Nat) (ts : List MsgT) (p : MsgT → Bool) (w : World) (hs : RdN 11 msgR w lo hi A n c ts) (hhi : hi ≤ w.heap.size) (hp : ∀ (k : Nat) (hk : k < ts.length) (W : World) (A1 B1 : Option Addr) (n1 c1 p1 d1 : Nat), Below w.heap.size w W → RdN 7 clR W lo hi A1 n1 c1 ts[k].2.2.2.2.2.1 → RdN 2 voteR W lo hi B1 p1 d1 ts[k].2.2.2.2.2.2 → Calls Tryz.prog 22 #[.agg #[.int .i64 ts[k].1, .int .i64 ts[k].2.1, .int .i64 ts[k].2.2.1, .int .i64 ts[k].2.2.2.1, .int .i64 ts[k].2.2.2.2.1.1, .int .i64 ts[k].2.2.2.2.1.2.1, .int .i64 ts[k].2.2.2.2.1.2.2.1, .int .i64 ts[k].2.2.2.2.1.2.2.2.1, .int .i64 ts[k].2.2.2.2.1.2.2.2.2, .slice A1 n1 c1, .slice B1 p1 d1]] W fun e W' => e = .returned (.bool (p ts[k])) ∧ Below W.heap.size W W') :
    Calls Tryz.prog 42 #[.slice A n c, .func (.func 22) #[] #[]] w fun e w' => ∃ i : Int, e = .returned (.int .i64 i) ∧ (i = -1 ∧ ts.any p = false ∨ 0 ≤ i ∧ ts.any p = true) ∧ Below w.heap.size w w' := by
  have hn' := hide hs.len
  have hc1 := hs.cap
  have hc2 := hs.max
  unfold maxLen at hc2
  have hp' := hide hp
  clear hp
  go_enter Tryz.func42, Tryz.ntmps42
  go_wp2
  go_loopw [8, 5] (fun i _ wr => ∃ k : Nat, k ≤ n ∧ i = .int .i64 k ∧ Hid (∀ j (h : j < ts.length), j < k → ¬ p ts[j] = true) ∧ Below w.heap.size w wr) (fun i _ _ => n - (intOf i).toNat)
  case atStart => exact ⟨0, Nat.zero_le _, rfl, fun j h h' => absurd h' (by omega), Below.refl _ _⟩
  case round =>
    obtain ⟨k, hk, rfl, hno, hbr⟩ := hrel
    by_cases hlt : k < n
    · have hlx : k < ts.length := by have := hn'.out; omega
      obtain ⟨b', off, rfl, hlo, hbh⟩ := hs.addr hlx
      obtain ⟨A1, n1, c1, B1, p1, d1, a0, a1, a2, a3, a4, a5, a6, a7, a8, a9, a10, r0, r1⟩ := (hs.below msg_kept hbr hhi).msg hlx
      go_wp2_with fail
      refine (hp'.out k hlx wr _ _ _ _ _ _ hbr r0 r1).mono ?_
      rintro e w1 ⟨rfl, hb1⟩
      cases he : p ts[k]
      · have he' := hide he
        go_wp2
        go_roundw
        case rel => exact ⟨k + 1, by omega, by go_num, fun j hj hjk h => by
          by_cases h2 : j < k
          · exact hno.out j hj h2 h
          · obtain rfl : j = k := by omega
            have := he'.out
            simp [h] at this, hbr.trans (hb1.mono hbr.size)⟩
        case measure => simp [intOf]; omega
      · have he' : Hid (ts.any p = true) := hide (List.any_eq_true.2 ⟨ts[k], List.getElem_mem hlx, he⟩)
        go_wp2
        go_ret
        exact ⟨k, rfl, .inr ⟨by omega, he'.out⟩, hbr.trans (hb1.mono hbr.size)⟩
    · obtain rfl : k = n := by omega
      go_wp2
      go_ret
      refine ⟨-1, rfl, .inl ⟨rfl, ?_⟩, hbr⟩
      simp only [List.any_eq_false]
      intro x hx
      obtain ⟨j, hj, rfl⟩ := List.mem_iff_getElem.1 hx
      exact hno.out j hj (by have := hn'.out; omega)
theorem contains_worldOk (A : Option Addr) (n c lo hi : Nat) (ts : List MsgT) (p : MsgT → Bool) (w : World) (hs : RdN 11 msgR w lo hi A n c ts) (hhi : hi ≤ w.heap.size) (hp : ∀ (k : Nat) (hk : k < ts.length) (W : World) (A1 B1 : Option Addr) (n1 c1 p1 d1 : Nat), Below w.heap.size w W → RdN 7 clR W lo hi A1 n1 c1 ts[k].2.2.2.2.2.1 → RdN 2 voteR W lo hi B1 p1 d1 ts[k].2.2.2.2.2.2 → Calls Tryz.prog 22 #[.agg #[.int .i64 ts[k].1, .int .i64 ts[k].2.1, .int .i64 ts[k].2.2.1, .int .i64 ts[k].2.2.2.1, .int .i64 ts[k].2.2.2.2.1.1, .int .i64 ts[k].2.2.2.2.1.2.1, .int .i64 ts[k].2.2.2.2.1.2.2.1, .int .i64 ts[k].2.2.2.2.1.2.2.2.1, .int .i64 ts[k].2.2.2.2.1.2.2.2.2, .slice A1 n1 c1, .slice B1 p1 d1]] W fun e W' => e = .returned (.bool (p ts[k])) ∧ Below W.heap.size W W') :
    Calls Tryz.prog 21 #[.slice A n c, .func (.func 22) #[] #[]] w fun e w' => e = .returned (.bool (ts.any p)) ∧ Below w.heap.size w w' := by
  have hp' := hide hp
  clear hp
  go_enter Tryz.func21, Tryz.ntmps21
  go_wp2_with fail
  refine (index_worldOk A n c lo hi ts p w hs hhi hp'.out).mono ?_
  rintro e w1 ⟨i, rfl, hi, hb1⟩
  rcases hi with ⟨rfl, h⟩ | ⟨h1, h⟩
  · have h' := hide h
    go_wp2
    go_ret
    exact ⟨by rw [h'.out]; rfl, hb1⟩
  · have h' := hide h
    have d1 : decide (0 ≤ i) = true := by simpa using h1
    go_wp2
    go_ret
    exact ⟨by rw [h'.out]; simp [h1], hb1⟩
theorem any_notM {ts : List MsgT} : ts.any (fun m => !okMsg m) = !ts.all okMsg := by
  induction ts with
  | nil => rfl
  | cons t ts ih => simp [List.any_cons, List.all_cons, ih, Bool.not_and]
set_option maxRecDepth 100000 in
set_option maxHeartbeats 4000000 in
theorem WorldOk_c (t : WorldT) (A B : Option Addr) (n c p d : Nat) (lo hi : Nat) (w : World) (h0 : RdN 7 repR w lo hi A n c t.2.1) (h1 : RdN 11 msgR w lo hi B p d t.2.2) (hhi : hi ≤ w.heap.size) :
    Calls Tryz.prog 10 #[.agg #[.int .i64 t.1, .slice A n c, .slice B p d]] w fun e w' => e = .returned (.bool (okWorld t)) ∧ Below w.heap.size w w' := by
  have hB : Below w.heap.size w (w.alloc (.cells #[.int .i64 t.1, .slice A n c, .slice B p d] 26)) := (Below.refl _ _).alloc (Nat.le_refl _) _
  have hn' := hide h0.len
  have hp' := hide h1.len
  have hc1 := h0.cap
  have hc2 := h0.max
  have hd1 := h1.cap
  have hd2 := h1.max
  unfold maxLen at hc2 hd2
  have x0 : (w.alloc (.cells #[.int .i64 t.1, .slice A n c, .slice B p d] 26)).cell? ⟨w.heap.size, 0, none⟩ = some (.int .i64 t.1) := by simp
  have x1 : (w.alloc (.cells #[.int .i64 t.1, .slice A n c, .slice B p d] 26)).cell? ⟨w.heap.size, 1, none⟩ = some (.slice A n c) := by simp
  have x2 : (w.alloc (.cells #[.int .i64 t.1, .slice A n c, .slice B p d] 26)).cell? ⟨w.heap.size, 2, none⟩ = some (.slice B p d) := by simp
  have z1 : Hid (decide (t.2.1.length = 4) = ((n : Int) == 4)) := hide (by rw [← hn'.out, Bool.eq_iff_iff]; simp; omega)
  have z2 : Hid (decide (t.2.2.length ≤ 100) = decide ((p : Int) ≤ 100)) := hide (by rw [← hp'.out, Bool.eq_iff_iff]; simp; omega)
  have g2 : decide (100 < (p : Int)) = !decide ((p : Int) ≤ 100) := by rw [Bool.eq_iff_iff]; simp
  have g1 : ((n : Int) != 4) = !((n : Int) == 4) := rfl
  cases f1 : inB t.1 0 3
  · have hr : Hid (okWorld t = false) := hide (by
      have y1 := z1.out
      have y2 := z2.out
      simp only [okWorld, y1, y2, f1]; simp)
    go_enter Tryz.func10, Tryz.ntmps10
    go_wp2_with (go_at_call 14; refine (isKeeper_c _ _).mono ?_; rintro e w' ⟨rfl, rfl⟩; rw [f1])
    go_ret
    exact ⟨by rw [hr.out]; rfl, hB⟩
  cases f2 : ((n : Int) == 4)
  · have hr : Hid (okWorld t = false) := hide (by
      have y1 := z1.out
      have y2 := z2.out
      simp only [okWorld, y1, y2, f1, f2]; simp)
    rw [f2] at g1
    clear f2
    go_enter Tryz.func10, Tryz.ntmps10
    go_wp2_with (go_at_call 14; refine (isKeeper_c _ _).mono ?_; rintro e w' ⟨rfl, rfl⟩; rw [f1])
    go_ret
    exact ⟨by rw [hr.out]; rfl, hB⟩
  cases f3 : decide ((p : Int) ≤ 100)
  · have hr : Hid (okWorld t = false) := hide (by
      have y1 := z1.out
      have y2 := z2.out
      simp only [okWorld, y1, y2, f1, f2, f3]; simp)
    rw [f2] at g1
    rw [f3] at g2
    clear f2 f3
    go_enter Tryz.func10, Tryz.ntmps10
    go_wp2_with (go_at_call 14; refine (isKeeper_c _ _).mono ?_; rintro e w' ⟨rfl, rfl⟩; rw [f1])
    go_ret
    exact ⟨by rw [hr.out]; rfl, hB⟩
  have hr : Hid (okWorld t = (decide (okReps t.2.1) && t.2.2.all okMsg)) := hide (by
    have y1 := z1.out
    have y2 := z2.out
    simp only [okWorld, y1, y2, f1, f2, f3]; simp)
  rw [f2] at g1
  rw [f3] at g2
  clear f2 f3
  go_enter Tryz.func10, Tryz.ntmps10
  go_wp2_with (go_at_call 14; refine (isKeeper_c _ _).mono ?_; rintro e w' ⟨rfl, rfl⟩; rw [f1])
  generalize w.alloc (.cells #[.int .i64 t.1, .slice A n c, .slice B p d] 26) = w0 at *
  go_loopw [24, 3, 4] (fun i _ _ wr => ∃ k : Nat, k ≤ n ∧ i = .int .i64 k ∧ Hid (∀ i, i < k → goodRp t.2.1 i) ∧ Below w0.heap.size w0 wr) (fun i _ _ _ => n - (intOf i).toNat)
  case atStart => exact ⟨0, Nat.zero_le _, rfl, fun i h => absurd h (by omega), Below.refl _ _⟩
  case round =>
    obtain ⟨k, hk, rfl, hgo, hbr⟩ := hrel
    have hBr := hB.trans (hbr.mono hB.size)
    have hzr := hbr.size
    have x0 := keepc hbr x0; have x1 := keepc hbr x1; have x2 := keepc hbr x2
    by_cases hlt : k < n
    · have hlx : k < t.2.1.length := by have := hn'.out; omega
      obtain ⟨b, off, rfl, hlo, hbh⟩ := h0.addr hlx
      obtain ⟨A1, n1, c1, B1, p1, d1, E1, q1, u1, a0, a1, a2, a3, a4, a5, a6, r0, r1, r2⟩ := (h0.below rep_kept hBr hhi).rep hlx
      have hA := (Below.refl wr.heap.size wr).alloc (Nat.le_refl _) (.cells #[.int .i64 t.2.1[k].1, .int .i64 t.2.1[k].2.1, .bool t.2.1[k].2.2.1, .int .i64 t.2.1[k].2.2.2.1, .slice A1 n1 c1, .slice B1 p1 d1, .slice E1 q1 u1] 31)
      have hzA := hA.size
      have hB1 := hBr.trans (hA.mono hBr.size)
      have hr1 := hbr.trans (hA.mono hzr)
      have hrk := hide (RepOk_c t.2.1[k] A1 B1 E1 n1 c1 p1 d1 q1 u1 lo hi (wr.alloc (.cells #[.int .i64 t.2.1[k].1, .int .i64 t.2.1[k].2.1, .bool t.2.1[k].2.2.1, .int .i64 t.2.1[k].2.2.2.1, .slice A1 n1 c1, .slice B1 p1 d1, .slice E1 q1 u1] 31)) (r0.below (flat_kept _) hA (Nat.le_trans hhi hBr.size)) (r1.below msg_kept hA (Nat.le_trans hhi hBr.size)) (r2.below (flat_kept _) hA (Nat.le_trans hhi hBr.size)) (Nat.le_trans hhi hB1.size))
      cases e2 : (t.2.1[k].1 != (k : Int))
      · cases e1 : okRep t.2.1[k]
        · have hno := hide (not_okReps hlx (fun ⟨_, h, _⟩ => by rw [e1] at h; cases h))
          go_wp2_with fail
          refine hrk.out.mono ?_
          rintro e w1 ⟨rfl, hb1⟩
          rw [e1]
          go_wp2
          go_ret
          exact ⟨by rw [hr.out, hno.out]; rfl, hB1.trans (hb1.mono hB1.size)⟩
        · have hyes : Hid (goodRp t.2.1 k) := hide ⟨hlx, e1, by simpa using e2⟩
          go_wp2_with fail
          refine hrk.out.mono ?_
          rintro e w1 ⟨rfl, hb1⟩
          rw [e1]
          go_wp2
          go_roundw
          case rel => exact ⟨k + 1, by omega, by go_num, hide (allTo_succ hgo.out hyes.out), hr1.trans (hb1.mono hr1.size)⟩
          case measure => simp [intOf]; omega
      · have hno := hide (not_okReps hlx (fun ⟨_, _, h⟩ => by simp [h] at e2))
        go_wp2
        go_ret
        exact ⟨by rw [hr.out, hno.out]; rfl, hB1⟩
    · obtain rfl : k = n := by omega
      have hreps := hide (is_okReps hn'.out hgo.out)
      go_wp2_with fail
      refine (contains_worldOk B p d lo hi t.2.2 (fun m => !okMsg m) wr (h1.below msg_kept hBr hhi) (Nat.le_trans hhi hBr.size) (fun k hk W A1 B1 n1 c1 p1 d1 hW r1 r2 => worldOk1_c t.2.2[k] A1 B1 n1 c1 p1 d1 lo hi W r1 r2 (Nat.le_trans hhi (Nat.le_trans hBr.size hW.size)))).mono ?_
      rintro e w7 ⟨rfl, hb7⟩
      go_wp2
      go_ret
      exact ⟨congrArg (fun b => Ending.returned (.bool b)) (by rw [hr.out, hreps.out, any_notM]; simp), hBr.trans (hb7.mono hBr.size)⟩
end Go.Proofs.YtopmbnnjhoinkaaGreat
