/-
  What 'FVd' rests on (texts of this seat put together: VOa VOb VOc VOd).
  Conditions: none.
-/
import Derived.Test.YtopmbnnjhoinkaaVV19
namespace Go.Proofs.Ytopmbnnjhoinkaa
open Go.RowKit Rg
set_option linter.unusedVariables false
set_option linter.unusedSimpArgs false
set_option maxHeartbeats 1000000
def lateB (ts : List MsgT) (view : Int) (k : ClaimT) : Bool := decide (view ≤ k.2.1) || !readyI ts k
set_option maxRecDepth 100000 in
set_option maxHeartbeats 4000000 in
theorem earlier1_c (k : ClaimT) (view : Int) (ts : List MsgT) (A : Option Addr) (n c0 lo hi b1 b2 : Nat) (w : World) (h1 : w.cell? ⟨b1, 0, none⟩ = some (.int .i64 view)) (h2 : w.cell? ⟨b2, 0, none⟩ = some (.slice A n c0)) (hs : RdN 11 msgR w lo hi A n c0 ts) (hhi : hi ≤ w.heap.size) :
    Calls Try.prog 59 #[.agg #[.int .i64 k.1, .int .i64 k.2.1, .int .i64 k.2.2.1, .int .i64 k.2.2.2.1, .int .i64 k.2.2.2.2.1, .int .i64 k.2.2.2.2.2.1, .int .i64 k.2.2.2.2.2.2], .pointer (some ⟨b1, 0, none⟩), .pointer (some ⟨b2, 0, none⟩)] w fun e w' => e = .returned (.bool (lateB ts view k)) ∧ Below w.heap.size w w' := by
  have hA := (Below.refl w.heap.size w).alloc (Nat.le_refl _) (.cells #[.int .i64 k.1, .int .i64 k.2.1, .int .i64 k.2.2.1, .int .i64 k.2.2.2.1, .int .i64 k.2.2.2.2.1, .int .i64 k.2.2.2.2.2.1, .int .i64 k.2.2.2.2.2.2] 27)
  have hl1 := lt_of_cell h1
  have hl2 := lt_of_cell h2
  have hne1 : b1 ≠ w.heap.size := Nat.ne_of_lt hl1
  have hne2 : b2 ≠ w.heap.size := Nat.ne_of_lt hl2
  have h1 := keepc hA h1
  have h2 := keepc hA h2
  have hs1 := hs.below msg_kept hA hhi
  have hz := hA.size
  cases e1 : decide (view ≤ k.2.1)
  · have e1' := hide e1
    go_enter Try.func59, Try.ntmps59
    go_wp2_with fail
    refine (ClaimReady_c A n c0 lo hi ts k _ hs1 (Nat.le_trans hhi hz)).mono ?_
    rintro e w1 ⟨rfl, hb1⟩
    go_wp2
    go_ret
    exact ⟨congrArg (fun b => Ending.returned (.bool b)) (by simp [lateB, e1'.out]), hA.trans (hb1.mono hz)⟩
  · have e1' := hide e1
    go_enter Try.func59, Try.ntmps59
    go_wp2
    go_ret
    exact ⟨congrArg (fun b => Ending.returned (.bool b)) (by simp [lateB, e1'.out]), hA⟩
theorem index_earlier (A : Option Addr) (n c lo hi : Nat) (ts : List ClaimT) (b1 : Nat) (b2 : Nat) (p : ClaimT → Bool) (w : World) (hs : RdN 7 clR w lo hi A n c ts) (hhi : hi ≤ w.heap.size) (hp : ∀ (k : Nat) (hk : k < ts.length) (W : World), Below w.heap.size w W → Calls Try.prog 59 #[.agg #[.int .i64 ts[k].1, .int .i64 ts[k].2.1, .int .i64 ts[k].2.2.1, .int .i64 ts[k].2.2.2.1, .int .i64 ts[k].2.2.2.2.1, .int .i64 ts[k].2.2.2.2.2.1, .int .i64 ts[k].2.2.2.2.2.2], .pointer (some ⟨b1, 0, none⟩), .pointer (some ⟨b2, 0, none⟩)] W fun e W' => e = .returned (.bool (p ts[k])) ∧ Below W.heap.size W W') :
    Calls Try.prog 76 #[.slice A n c, .func (.func 59) #[] #[.pointer (some ⟨b1, 0, none⟩), .pointer (some ⟨b2, 0, none⟩)]] w fun e w' => ∃ i : Int, e = .returned (.int .i64 i) ∧ (i = -1 ∧ ts.any p = false ∨ 0 ≤ i ∧ ts.any p = true) ∧ Below w.heap.size w w' := by
  have hn' := hide hs.len
  have hc1 := hs.cap
  have hc2 := hs.max
  unfold maxLen at hc2
  have hp' := hide hp
  clear hp
  go_enter Try.func76, Try.ntmps76
  go_wp2
  go_loopw [8, 5] (fun i _ wr => ∃ k : Nat, k ≤ n ∧ i = .int .i64 k ∧ Hid (∀ j (h : j < ts.length), j < k → ¬ p ts[j] = true) ∧ Below w.heap.size w wr) (fun i _ _ => n - (intOf i).toNat)
  case atStart => exact ⟨0, Nat.zero_le _, rfl, fun j h h' => absurd h' (by omega), Below.refl _ _⟩
  case round =>
    obtain ⟨k, hk, rfl, hno, hbr⟩ := hrel
    by_cases hlt : k < n
    · have hlx : k < ts.length := by have := hn'.out; omega
      obtain ⟨b', off, rfl, hlo, hbh⟩ := hs.addr hlx
      obtain ⟨a0, a1, a2, a3, a4, a5, a6⟩ := (hs.below (flat_kept _) hbr hhi).claim hlx
      go_wp2_with fail
      refine (hp'.out k hlx wr hbr).mono ?_
      rintro e w1 ⟨rfl, hb1⟩
      cases he : p ts[k]
      · have he' := hide he
        go_wp2
        go_roundw
        case rel => exact ⟨k + 1, by omega, by go_num, fun j hj hjk h => by
          by_cases h2 : j < k
          · exact hno.out j hj h2 h
          · obtain rfl : j = k := by omega
            have := he'.out
            simp [h] at this, hbr.trans (hb1.mono hbr.size)⟩
        case measure => simp [intOf]; omega
      · have he' : Hid (ts.any p = true) := hide (List.any_eq_true.2 ⟨ts[k], List.getElem_mem hlx, he⟩)
        go_wp2
        go_ret
        exact ⟨k, rfl, .inr ⟨by omega, he'.out⟩, hbr.trans (hb1.mono hbr.size)⟩
    · obtain rfl : k = n := by omega
      go_wp2
      go_ret
      refine ⟨-1, rfl, .inl ⟨rfl, ?_⟩, hbr⟩
      simp only [List.any_eq_false]
      intro x hx
      obtain ⟨j, hj, rfl⟩ := List.mem_iff_getElem.1 hx
      exact hno.out j hj (by have := hn'.out; omega)
theorem contains_earlier (A : Option Addr) (n c lo hi : Nat) (ts : List ClaimT) (b1 : Nat) (b2 : Nat) (p : ClaimT → Bool) (w : World) (hs : RdN 7 clR w lo hi A n c ts) (hhi : hi ≤ w.heap.size) (hp : ∀ (k : Nat) (hk : k < ts.length) (W : World), Below w.heap.size w W → Calls Try.prog 59 #[.agg #[.int .i64 ts[k].1, .int .i64 ts[k].2.1, .int .i64 ts[k].2.2.1, .int .i64 ts[k].2.2.2.1, .int .i64 ts[k].2.2.2.2.1, .int .i64 ts[k].2.2.2.2.2.1, .int .i64 ts[k].2.2.2.2.2.2], .pointer (some ⟨b1, 0, none⟩), .pointer (some ⟨b2, 0, none⟩)] W fun e W' => e = .returned (.bool (p ts[k])) ∧ Below W.heap.size W W') :
    Calls Try.prog 58 #[.slice A n c, .func (.func 59) #[] #[.pointer (some ⟨b1, 0, none⟩), .pointer (some ⟨b2, 0, none⟩)]] w fun e w' => e = .returned (.bool (ts.any p)) ∧ Below w.heap.size w w' := by
  have hp' := hide hp
  clear hp
  go_enter Try.func58, Try.ntmps58
  go_wp2_with fail
  refine (index_earlier A n c lo hi ts b1 b2 p w hs hhi hp'.out).mono ?_
  rintro e w1 ⟨i, rfl, hi, hb1⟩
  rcases hi with ⟨rfl, h⟩ | ⟨h1, h⟩
  · have h' := hide h
    go_wp2
    go_ret
    exact ⟨by rw [h'.out]; rfl, hb1⟩
  · have h' := hide h
    have d1 : decide (0 ≤ i) = true := by simpa using h1
    go_wp2
    go_ret
    exact ⟨by rw [h'.out]; simp [h1], hb1⟩
theorem earlier_c (A : Option Addr) (n c0 lo hi : Nat) (ts : List MsgT) (view : Int) (B : Option Addr) (m d lo' hi' : Nat) (cs : List ClaimT) (w : World) (hs : RdN 11 msgR w lo hi A n c0 ts) (hcs : RdN 7 clR w lo' hi' B m d cs) (hhi : hi ≤ w.heap.size) (hhi' : hi' ≤ w.heap.size) :
    Calls Try.prog 33 #[.slice A n c0, .int .i64 view, .slice B m d] w fun e w' => e = .returned (.bool (!cs.any (lateB ts view))) ∧ Below w.heap.size w w' := by
  have hA : Below w.heap.size w ((w.alloc (.cells #[.slice A n c0] 23)).alloc (.cells #[.int .i64 view] 3)) := ((Below.refl _ _).alloc (Nat.le_refl _) _).alloc (by simp) _
  have x1 : ((w.alloc (.cells #[.slice A n c0] 23)).alloc (.cells #[.int .i64 view] 3)).cell? ⟨w.heap.size + 1, 0, none⟩ = some (.int .i64 view) := by simp
  have x2 : ((w.alloc (.cells #[.slice A n c0] 23)).alloc (.cells #[.int .i64 view] 3)).cell? ⟨w.heap.size, 0, none⟩ = some (.slice A n c0) := by simp
  have hz := hA.size
  have hs1 := hs.below msg_kept hA hhi
  have hcs1 := hcs.below (flat_kept _) hA hhi'
  go_enter Try.func33, Try.ntmps33
  go_wp2_with fail
  refine (contains_earlier B m d lo' hi' cs (w.heap.size + 1) w.heap.size (lateB ts view) _ hcs1 (Nat.le_trans hhi' hz) (fun k hk W hW => earlier1_c cs[k] view ts A n c0 lo hi _ _ W (keepc hW x1) (keepc hW x2) (hs1.below msg_kept hW (Nat.le_trans hhi hz)) (Nat.le_trans (Nat.le_trans hhi hz) hW.size))).mono ?_
  rintro e w1 ⟨rfl, hb1⟩
  go_wp2
  go_ret
  exact ⟨rfl, hA.trans (hb1.mono hz)⟩
def turnsI (view : Int) (v : VoteT) (x : MsgT) : Bool := (x.1 == 5) && ((x.2.1 == v.1) && ((x.2.2.1 == view) && decide (x.2.2.2.2.2.1 = v.2)))
set_option maxRecDepth 100000 in
set_option maxHeartbeats 4000000 in
theorem turned1_c (x : MsgT) (v : VoteT) (view : Int) (A1 B1 : Option Addr) (n1 c1 p1 d1 lo hi b1 b2 : Nat) (Bv : Option Addr) (pv qv lo' hi' : Nat) (w : World) (h1 : RdN 7 clR w lo hi A1 n1 c1 x.2.2.2.2.2.1) (h2 : RdN 2 voteR w lo hi B1 p1 d1 x.2.2.2.2.2.2) (y0 : w.cell? ⟨b1, 0, none⟩ = some (.int .i64 v.1)) (y1 : w.cell? ⟨b1, 1, none⟩ = some (.slice Bv pv qv)) (hv : RdN 7 clR w lo' hi' Bv pv qv v.2) (y2 : w.cell? ⟨b2, 0, none⟩ = some (.int .i64 view)) (hhi : hi ≤ w.heap.size) (hhi' : hi' ≤ w.heap.size) :
    Calls Try.prog 31 #[.agg #[.int .i64 x.1, .int .i64 x.2.1, .int .i64 x.2.2.1, .int .i64 x.2.2.2.1, .int .i64 x.2.2.2.2.1.1, .int .i64 x.2.2.2.2.1.2.1, .int .i64 x.2.2.2.2.1.2.2.1, .int .i64 x.2.2.2.2.1.2.2.2.1, .int .i64 x.2.2.2.2.1.2.2.2.2, .slice A1 n1 c1, .slice B1 p1 d1], .pointer (some ⟨b1, 0, none⟩), .pointer (some ⟨b2, 0, none⟩)] w fun e w' => e = .returned (.bool (turnsI view v x)) ∧ Below w.heap.size w w' := by
  have hA := (Below.refl w.heap.size w).alloc (Nat.le_refl _) (.cells #[.int .i64 x.1, .int .i64 x.2.1, .int .i64 x.2.2.1, .int .i64 x.2.2.2.1, .int .i64 x.2.2.2.2.1.1, .int .i64 x.2.2.2.2.1.2.1, .int .i64 x.2.2.2.2.1.2.2.1, .int .i64 x.2.2.2.2.1.2.2.2.1, .int .i64 x.2.2.2.2.1.2.2.2.2, .slice A1 n1 c1, .slice B1 p1 d1] 34)
  have hl1 := lt_of_cell y0
  have hl2 := lt_of_cell y2
  have hne1 : b1 ≠ w.heap.size := Nat.ne_of_lt hl1
  have hne2 : b2 ≠ w.heap.size := Nat.ne_of_lt hl2
  have y0 := keepc hA y0
  have y1 := keepc hA y1
  have y2 := keepc hA y2
  have h1 := h1.below (flat_kept _) hA hhi
  have hv := hv.below (flat_kept _) hA hhi'
  cases e1 : (x.1 == 5) <;> cases e2 : (x.2.1 == v.1) <;> cases e3 : (x.2.2.1 == view)
  all_goals
    have e1' := hide e1
    have e2' := hide e2
    have e3' := hide e3
    go_enter Try.func31, Try.ntmps31
    go_wp2_with (first | (go_at_call 32; refine (equalClaims_c A1 Bv n1 pv c1 qv lo hi lo' hi' x.2.2.2.2.2.1 v.2 _ h1 hv).mono ?_; rintro e w1 ⟨rfl, q, rfl⟩) | fail)
    go_ret
    exact ⟨congrArg (fun b => Ending.returned (.bool b)) (by simp [turnsI, e1'.out, e2'.out, e3'.out]), (by first | exact hA | exact below_drewN' hA _)⟩
theorem index_turned (A : Option Addr) (n c lo hi : Nat) (ts : List MsgT) (b1 : Nat) (b2 : Nat) (p : MsgT → Bool) (w : World) (hs : RdN 11 msgR w lo hi A n c ts) (hhi : hi ≤ w.heap.size) (hp : ∀ (k : Nat) (hk : k < ts.length) (W : World) (A1 B1 : Option Addr) (n1 c1 p1 d1 : Nat), Below w.heap.size w W → RdN 7 clR W lo hi A1 n1 c1 ts[k].2.2.2.2.2.1 → RdN 2 voteR W lo hi B1 p1 d1 ts[k].2.2.2.2.2.2 → Calls Try.prog 31 #[.agg #[.int .i64 ts[k].1, .int .i64 ts[k].2.1, .int .i64 ts[k].2.2.1, .int .i64 ts[k].2.2.2.1, .int .i64 ts[k].2.2.2.2.1.1, .int .i64 ts[k].2.2.2.2.1.2.1, .int .i64 ts[k].2.2.2.2.1.2.2.1, .int .i64 ts[k].2.2.2.2.1.2.2.2.1, .int .i64 ts[k].2.2.2.2.1.2.2.2.2, .slice A1 n1 c1, .slice B1 p1 d1], .pointer (some ⟨b1, 0, none⟩), .pointer (some ⟨b2, 0, none⟩)] W fun e W' => e = .returned (.bool (p ts[k])) ∧ Below W.heap.size W W') :
    Calls Try.prog 57 #[.slice A n c, .func (.func 31) #[] #[.pointer (some ⟨b1, 0, none⟩), .pointer (some ⟨b2, 0, none⟩)]] w fun e w' => ∃ i : Int, e = .returned (.int .i64 i) ∧ (i = -1 ∧ ts.any p = false ∨ 0 ≤ i ∧ ts.any p = true) ∧ Below w.heap.size w w' := by
  have hn' := hide hs.len
  have hc1 := hs.cap
  have hc2 := hs.max
  unfold maxLen at hc2
  have hp' := hide hp
  clear hp
  go_enter Try.func57, Try.ntmps57
  go_wp2
  go_loopw [8, 5] (fun i _ wr => ∃ k : Nat, k ≤ n ∧ i = .int .i64 k ∧ Hid (∀ j (h : j < ts.length), j < k → ¬ p ts[j] = true) ∧ Below w.heap.size w wr) (fun i _ _ => n - (intOf i).toNat)
  case atStart => exact ⟨0, Nat.zero_le _, rfl, fun j h h' => absurd h' (by omega), Below.refl _ _⟩
  case round =>
    obtain ⟨k, hk, rfl, hno, hbr⟩ := hrel
    by_cases hlt : k < n
    · have hlx : k < ts.length := by have := hn'.out; omega
      obtain ⟨b', off, rfl, hlo, hbh⟩ := hs.addr hlx
      obtain ⟨A1, n1, c1, B1, p1, d1, a0, a1, a2, a3, a4, a5, a6, a7, a8, a9, a10, r0, r1⟩ := (hs.below msg_kept hbr hhi).msg hlx
      go_wp2_with fail
      refine (hp'.out k hlx wr _ _ _ _ _ _ hbr r0 r1).mono ?_
      rintro e w1 ⟨rfl, hb1⟩
      cases he : p ts[k]
      · have he' := hide he
        go_wp2
        go_roundw
        case rel => exact ⟨k + 1, by omega, by go_num, fun j hj hjk h => by
          by_cases h2 : j < k
          · exact hno.out j hj h2 h
          · obtain rfl : j = k := by omega
            have := he'.out
            simp [h] at this, hbr.trans (hb1.mono hbr.size)⟩
        case measure => simp [intOf]; omega
      · have he' : Hid (ts.any p = true) := hide (List.any_eq_true.2 ⟨ts[k], List.getElem_mem hlx, he⟩)
        go_wp2
        go_ret
        exact ⟨k, rfl, .inr ⟨by omega, he'.out⟩, hbr.trans (hb1.mono hbr.size)⟩
    · obtain rfl : k = n := by omega
      go_wp2
      go_ret
      refine ⟨-1, rfl, .inl ⟨rfl, ?_⟩, hbr⟩
      simp only [List.any_eq_false]
      intro x hx
      obtain ⟨j, hj, rfl⟩ := List.mem_iff_getElem.1 hx
      exact hno.out j hj (by have := hn'.out; omega)
theorem contains_turned (A : Option Addr) (n c lo hi : Nat) (ts : List MsgT) (b1 : Nat) (b2 : Nat) (p : MsgT → Bool) (w : World) (hs : RdN 11 msgR w lo hi A n c ts) (hhi : hi ≤ w.heap.size) (hp : ∀ (k : Nat) (hk : k < ts.length) (W : World) (A1 B1 : Option Addr) (n1 c1 p1 d1 : Nat), Below w.heap.size w W → RdN 7 clR W lo hi A1 n1 c1 ts[k].2.2.2.2.2.1 → RdN 2 voteR W lo hi B1 p1 d1 ts[k].2.2.2.2.2.2 → Calls Try.prog 31 #[.agg #[.int .i64 ts[k].1, .int .i64 ts[k].2.1, .int .i64 ts[k].2.2.1, .int .i64 ts[k].2.2.2.1, .int .i64 ts[k].2.2.2.2.1.1, .int .i64 ts[k].2.2.2.2.1.2.1, .int .i64 ts[k].2.2.2.2.1.2.2.1, .int .i64 ts[k].2.2.2.2.1.2.2.2.1, .int .i64 ts[k].2.2.2.2.1.2.2.2.2, .slice A1 n1 c1, .slice B1 p1 d1], .pointer (some ⟨b1, 0, none⟩), .pointer (some ⟨b2, 0, none⟩)] W fun e W' => e = .returned (.bool (p ts[k])) ∧ Below W.heap.size W W') :
    Calls Try.prog 30 #[.slice A n c, .func (.func 31) #[] #[.pointer (some ⟨b1, 0, none⟩), .pointer (some ⟨b2, 0, none⟩)]] w fun e w' => e = .returned (.bool (ts.any p)) ∧ Below w.heap.size w w' := by
  have hp' := hide hp
  clear hp
  go_enter Try.func30, Try.ntmps30
  go_wp2_with fail
  refine (index_turned A n c lo hi ts b1 b2 p w hs hhi hp'.out).mono ?_
  rintro e w1 ⟨i, rfl, hi, hb1⟩
  rcases hi with ⟨rfl, h⟩ | ⟨h1, h⟩
  · have h' := hide h
    go_wp2
    go_ret
    exact ⟨by rw [h'.out]; rfl, hb1⟩
  · have h' := hide h
    have d1 : decide (0 ≤ i) = true := by simpa using h1
    go_wp2
    go_ret
    exact ⟨by rw [h'.out]; simp [h1], hb1⟩
def goodI (ts : List MsgT) (view : Int) (v : VoteT) : Bool := ts.any (turnsI view v) && !v.2.any (lateB ts view)
def okVotesI (ts : List MsgT) (view : Int) (vs : List VoteT) : Bool := inB view 0 6 && (decide (vs.length = 3) && (decide (okVs vs) && vs.all (goodI ts view)))
theorem allV_no {α : Type} {p : α → Bool} {vs : List α} {i : Nat} (hi : i < vs.length) (h : p vs[i] = false) : vs.all p = false := by
  rw [List.all_eq_false]
  exact ⟨vs[i], List.getElem_mem hi, by rw [h]; exact Bool.false_ne_true⟩
theorem allV_yes {α : Type} {p : α → Bool} {vs : List α} (h : ∀ i (hi : i < vs.length), p vs[i] = true) : vs.all p = true := by
  rw [List.all_eq_true]
  intro x hx
  obtain ⟨i, hi, rfl⟩ := List.mem_iff_getElem.1 hx
  exact h i hi
set_option maxRecDepth 100000 in
set_option maxHeartbeats 4000000 in
theorem VotesOk_c (A : Option Addr) (n c0 lo hi : Nat) (ts : List MsgT) (view : Int) (B : Option Addr) (m d lo' hi' : Nat) (vs : List VoteT) (w : World) (hs : RdN 11 msgR w lo hi A n c0 ts) (hvs : RdN 2 voteR w lo' hi' B m d vs) (hhi : hi ≤ w.heap.size) (hhi' : hi' ≤ w.heap.size) :
    Calls Try.prog 12 #[.slice A n c0, .int .i64 view, .slice B m d] w fun e w' => e = .returned (.bool (okVotesI ts view vs)) ∧ Below w.heap.size w w' := by
  have hm' := hide hvs.len
  have hA0 := (Below.refl w.heap.size w).alloc (Nat.le_refl _) (.cells #[.int .i64 view] 3)
  have x0 : (w.alloc (.cells #[.int .i64 view] 3)).cell? ⟨w.heap.size, 0, none⟩ = some (.int .i64 view) := by simp
  have hl0 : w.heap.size < (w.alloc (.cells #[.int .i64 view] 3)).heap.size := by simp
  have hs := hs.below msg_kept hA0 hhi
  have hvs := hvs.below vote_kept hA0 hhi'
  have hz0 := hA0.size
  replace hhi := Nat.le_trans hhi hz0
  replace hhi' := Nat.le_trans hhi' hz0
  cases e1 : inB view 0 6
  · have e1h := hide e1
    go_enter Try.func12, Try.ntmps12
    go_wp2_with (first | (go_at_call 28; refine (isView_c _ _).mono ?_; rintro e w2 ⟨rfl, rfl⟩; rw [e1]) | fail)
    go_ret
    exact ⟨by unfold okVotesI; rw [e1h.out]; rfl, hA0⟩
  have e1h := hide e1
  have hmm : m ≤ maxLen := Nat.le_trans hvs.cap hvs.max
  unfold maxLen at hmm
  by_cases h3 : m = 3
  rotate_left
  · have d3 : ((m : Int) != 3) = true := by simp; omega
    have h3h := hide h3
    go_enter Try.func12, Try.ntmps12
    go_wp2_with (first | (go_at_call 28; refine (isView_c _ _).mono ?_; rintro e w2 ⟨rfl, rfl⟩; rw [e1]) | fail)
    go_ret
    exact ⟨by unfold okVotesI; rw [e1h.out, decide_eq_false (fun h => h3h.out (by rw [hm'.out]; exact h))]; rfl, hA0⟩
  have d3 : ((m : Int) != 3) = false := by simp; omega
  have h3h : Hid (vs.length = 3) := hide (by rw [← hm'.out]; exact h3)
  have h3m := hide h3
  clear h3
  have hok := hide (fun W (h : Below (w.alloc (.cells #[.int .i64 view] 3)).heap.size (w.alloc (.cells #[.int .i64 view] 3)) W) => votesOk_c B m d lo' hi' vs W (hvs.below vote_kept h hhi') (Nat.le_trans hhi' h.size))
  cases e2 : decide (okVs vs)
  · have e2h := hide e2
    go_enter Try.func12, Try.ntmps12
    go_wp2_with (first | (go_at_call 28; refine (isView_c _ _).mono ?_; rintro e w2 ⟨rfl, rfl⟩; rw [e1]) | fail)
    generalize w.alloc (.cells #[.int .i64 view] 3) = w0 at *
    refine (hok.out _ (Below.refl _ _)).mono ?_
    rintro e w1 ⟨rfl, hb1⟩
    rw [e2h.out]
    go_wp2
    go_ret
    exact ⟨by unfold okVotesI; rw [e1h.out, e2h.out]; simp, hA0.trans (hb1.mono hz0)⟩
  have e2h := hide e2
  clear e2
  go_enter Try.func12, Try.ntmps12
  go_wp2_with (first | (go_at_call 28; refine (isView_c _ _).mono ?_; rintro e w2 ⟨rfl, rfl⟩; rw [e1]) | fail)
  generalize w.alloc (.cells #[.int .i64 view] 3) = w0 at *
  refine (hok.out _ (Below.refl _ _)).mono ?_
  rintro e w1 ⟨rfl, hb1⟩
  rw [e2h.out]
  clear hok e1 d3
  have hs := hs.below msg_kept hb1 hhi
  have hvs := hvs.below vote_kept hb1 hhi'
  have x0 := keepc hb1 x0
  have hB1 := hA0.trans (hb1.mono hz0)
  have hz1 := hb1.size
  replace hhi := Nat.le_trans hhi hz1
  replace hhi' := Nat.le_trans hhi' hz1
  replace hl0 := Nat.lt_of_lt_of_le hl0 hz1
  clear hb1 hA0 hz0 hz1
  go_wp2
  go_loopw [25, 8, 9] (fun iv _ _ wr => ∃ i : Nat, i ≤ m ∧ iv = .int .i64 (i : Int) ∧ Hid (∀ j (hj : j < vs.length), j < i → goodI ts view vs[j] = true) ∧ Below w1.heap.size w1 wr) (fun iv _ _ _ => m - (intOf iv).toNat)
  case atStart => exact ⟨0, Nat.zero_le _, rfl, fun j _ h => absurd h (by omega), Below.refl _ _⟩
  case round =>
    obtain ⟨i, him, rfl, hgo, hbr⟩ := hrel
    by_cases hlt : i < m
    · have hlx : i < vs.length := by have := hm'.out; omega
      have hi3 : i < 3 := by have := h3m.out; omega
      obtain ⟨b', off, rfl, hlo, hbh⟩ := hvs.addr hlx
      obtain ⟨A', n', c', a0, a1, r1⟩ := (hvs.below vote_kept hbr hhi').vote hlx
      have hAb := (Below.refl wr.heap.size wr).alloc (Nat.le_refl _) (.cells #[.int .i64 vs[i].1, .slice A' n' c'] 42)
      have y0 : (wr.alloc (.cells #[.int .i64 vs[i].1, .slice A' n' c'] 42)).cell? ⟨wr.heap.size, 0, none⟩ = some (.int .i64 vs[i].1) := by simp
      have y1 : (wr.alloc (.cells #[.int .i64 vs[i].1, .slice A' n' c'] 42)).cell? ⟨wr.heap.size, 1, none⟩ = some (.slice A' n' c') := by simp
      have hzr := hbr.size
      have y2 := keepc hAb (keepc hbr x0)
      have hsr := (hs.below msg_kept hbr hhi).below msg_kept hAb (Nat.le_trans hhi hzr)
      have r1 := r1.below (flat_kept _) hAb (Nat.le_trans hhi' hzr)
      have hB := hB1.trans ((hbr.trans (hAb.mono hzr)).mono hB1.size)
      have hBr := hbr.trans (hAb.mono hzr)
      have hzb := hAb.size
      go_wp2_with fail
      refine (contains_turned A n c0 lo hi ts wr.heap.size w.heap.size (turnsI view vs[i]) _ hsr (Nat.le_trans hhi (Nat.le_trans hzr hzb)) (fun k hk W A1 B1 n1 c1 p1 d1 hW r2 r3 => turned1_c ts[k] vs[i] view A1 B1 n1 c1 p1 d1 lo hi wr.heap.size w.heap.size A' n' c' lo' hi' W r2 r3 (keepc hW y0) (keepc hW y1) (r1.below (flat_kept _) hW (Nat.le_trans hhi' (Nat.le_trans hzr hzb))) (keepc hW y2) (Nat.le_trans (Nat.le_trans hhi (Nat.le_trans hzr hzb)) hW.size) (Nat.le_trans (Nat.le_trans hhi' (Nat.le_trans hzr hzb)) hW.size))).mono ?_
      rintro e w2 ⟨rfl, hb2⟩
      have hB2 := hB.trans (hb2.mono hB.size)
      have hBr2 := hBr.trans (hb2.mono hBr.size)
      cases et : ts.any (turnsI view vs[i])
      · have hno : Hid (vs.all (goodI ts view) = false) := hide (allV_no hlx (by unfold goodI; rw [et]; rfl))
        go_wp2
        go_ret
        exact ⟨by unfold okVotesI; rw [hno.out]; simp, hB2⟩
      · have eth := hide et
        have y1 := keepc hb2 y1
        have y2 := keepc hb2 y2
        have hl8 : wr.heap.size < w2.heap.size := Nat.lt_of_lt_of_le (by simp) hb2.size
        have hke := hide (earlier_c A n c0 lo hi ts view A' n' c' lo' hi' vs[i].2 w2 (hsr.below msg_kept hb2 (Nat.le_trans hhi (Nat.le_trans hzr hzb))) (r1.below (flat_kept _) hb2 (Nat.le_trans hhi' (Nat.le_trans hzr hzb))) (Nat.le_trans (Nat.le_trans hhi (Nat.le_trans hzr hzb)) hb2.size) (Nat.le_trans (Nat.le_trans hhi' (Nat.le_trans hzr hzb)) hb2.size))
        go_wp2_with fail
        refine hke.out.mono ?_
        rintro e w3 ⟨rfl, hb3⟩
        have hB3 := hB2.trans (hb3.mono hB2.size)
        have hBr3 := hBr2.trans (hb3.mono hBr2.size)
        cases el : vs[i].2.any (lateB ts view)
        · have hyes : Hid (goodI ts view vs[i] = true) := hide (by unfold goodI; rw [eth.out, el]; rfl)
          go_wp2
          go_roundw
          case rel => exact ⟨i + 1, by omega, by go_num, fun j hj h => by
            by_cases h9 : j < i
            · exact hgo.out j hj h9
            · obtain rfl : j = i := by omega
              exact hyes.out, hBr3⟩
          case measure => simp [intOf]; omega
        · have hno : Hid (vs.all (goodI ts view) = false) := hide (allV_no hlx (by unfold goodI; rw [eth.out, el]; rfl))
          go_wp2
          go_ret
          exact ⟨by unfold okVotesI; rw [hno.out]; simp, hB3⟩
    · obtain rfl : i = m := by omega
      have hyes : Hid (vs.all (goodI ts view) = true) := hide (allV_yes fun j hj => hgo.out j hj (by rw [hm'.out]; exact hj))
      go_wp2
      go_ret
      exact ⟨by unfold okVotesI; rw [e1h.out, e2h.out, hyes.out, h3h.out]; rfl, hB1.trans (hbr.mono hB1.size)⟩
def turnM (view : Int) (v : VoteT) : MsgT := (5, v.1, view, 0, (0, 0, 0, 0, 0), v.2, [])
def provedS (ts : List MsgT) (view : Int) (k : ClaimT) : Bool := decide (k.2.1 < view) && readyL ts k
def turnS (ts : List MsgT) (view : Int) (v : VoteT) : Bool := decide (turnM view v ∈ ts) && v.2.all (provedS ts view)
def YesNo (w : World) (p : Bool → Prop) (e : Ending) (w' : World) : Prop := ∃ b, e = .returned (.bool b) ∧ p b ∧ Below w.heap.size w w'
def AnyReady (A : Option Addr) (n c0 : Nat) (w : World) (k : ClaimT) : Prop := k.2.1 < 0 → ∀ W, Below w.heap.size w W → Calls Try.prog 23 #[.slice A n c0, .agg #[.int .i64 k.1, .int .i64 k.2.1, .int .i64 k.2.2.1, .int .i64 k.2.2.2.1, .int .i64 k.2.2.2.2.1, .int .i64 k.2.2.2.2.2.1, .int .i64 k.2.2.2.2.2.2]] W fun e W' => YesNo W (fun _ => True) e W'
theorem ready_any {A : Option Addr} {n c0 lo hi : Nat} {ts : List MsgT} {k : ClaimT} {w : World} (hs : RdN 11 msgR w lo hi A n c0 ts) (hhi : hi ≤ w.heap.size) (hany : AnyReady A n c0 w k) (h1 : k.2.1 ≤ 1000000) (W : World) (hW : Below w.heap.size w W) :
    Calls Try.prog 23 #[.slice A n c0, .agg #[.int .i64 k.1, .int .i64 k.2.1, .int .i64 k.2.2.1, .int .i64 k.2.2.2.1, .int .i64 k.2.2.2.2.1, .int .i64 k.2.2.2.2.2.1, .int .i64 k.2.2.2.2.2.2]] W fun e W' => YesNo W (fun b => 0 ≤ k.2.1 → b = readyL ts k) e W' := by
  by_cases h0 : 0 ≤ k.2.1
  · exact (l4Ready_c A n c0 lo hi ts k W (hs.below msg_kept hW hhi) (Nat.le_trans hhi hW.size) h0 h1).mono fun e W' ⟨he, hb⟩ => ⟨_, he, fun _ => rfl, hb⟩
  · exact (hany (by omega) W hW).mono fun e W' ⟨b, he, _, hb⟩ => ⟨b, he, fun h => absurd h h0, hb⟩
theorem AnyReady.below {A : Option Addr} {n c0 : Nat} {w w' : World} {k : ClaimT} (h : AnyReady A n c0 w k) (hb : Below w.heap.size w w') : AnyReady A n c0 w' k := fun h0 W hW => h h0 W (hb.trans (hW.mono hb.size))
set_option maxRecDepth 100000 in
set_option maxHeartbeats 4000000 in
theorem l4Turn_c (A : Option Addr) (n c0 lo hi : Nat) (ts : List MsgT) (view : Int) (v : VoteT) (B : Option Addr) (m d lo' hi' : Nat) (w : World) (hs : RdN 11 msgR w lo hi A n c0 ts) (hv : RdN 7 clR w lo' hi' B m d v.2) (hhi : hi ≤ w.heap.size) (hhi' : hi' ≤ w.heap.size) (hvw : view ≤ 1000000) (hany : ∀ k ∈ v.2, AnyReady A n c0 w k) :
    Calls Try.prog 60 #[.slice A n c0, .int .i64 view, .agg #[.int .i64 v.1, .slice B m d]] w fun e w' => YesNo w (fun b => (∀ k ∈ v.2, 0 ≤ k.2.1) → b = turnS ts view v) e w' := by
  have hm' := hide hv.len
  have hmm : m ≤ maxLen := Nat.le_trans hv.cap hv.max
  unfold maxLen at hmm
  have hA := (Below.refl w.heap.size w).alloc (Nat.le_refl _) (.cells #[.int .i64 v.1, .slice B m d] 42)
  have x0 : (w.alloc (.cells #[.int .i64 v.1, .slice B m d] 42)).cell? ⟨w.heap.size, 0, none⟩ = some (.int .i64 v.1) := by simp
  have x1 : (w.alloc (.cells #[.int .i64 v.1, .slice B m d] 42)).cell? ⟨w.heap.size, 1, none⟩ = some (.slice B m d) := by simp
  have hl0 : w.heap.size < (w.alloc (.cells #[.int .i64 v.1, .slice B m d] 42)).heap.size := by simp
  have hs1 := hs.below msg_kept hA hhi
  have hv1 := hv.below (flat_kept _) hA hhi'
  have hz := hA.size
  have hhi1 := Nat.le_trans hhi hz
  have hhi1' := Nat.le_trans hhi' hz
  have hany1 := hide (fun k hk => (hany k hk).below hA)
  clear hany
  go_enter Try.func60, Try.ntmps60
  go_wp2_with fail
  generalize w.alloc (.cells #[.int .i64 v.1, .slice B m d] 42) = w0 at *
  refine (l3Has_c ts (turnM view v) A n c0 lo hi lo' hi' B none m d 0 0 w0 hs1 hv1 (RdN.nil_ _ _ _ _ _ _ _ (by simp [maxLen])) hhi1 hhi1').mono ?_
  rintro e w1 ⟨rfl, hb1⟩
  have hB1 := hA.trans (hb1.mono hz)
  have x1 := keepc hb1 x1
  have hl1 := Nat.lt_of_lt_of_le hl0 hb1.size
  cases eh : decide (turnM view v ∈ ts)
  · have ehh := hide eh
    go_wp2
    go_ret
    exact ⟨_, rfl, fun _ => by unfold turnS; rw [ehh.out]; rfl, hB1⟩
  · have ehh := hide eh
    clear eh
    have hs2 := hs1.below msg_kept hb1 hhi1
    have hv2 := hv1.below (flat_kept _) hb1 hhi1'
    have hz1 := hb1.size
    have hhi2 := Nat.le_trans hhi1 hz1
    have hhi2' := Nat.le_trans hhi1' hz1
    have hany2 := hide (fun k hk => (hany1.out k hk).below hb1)
    clear hany1
    go_wp2
    go_loopw [7] (fun iv wr => ∃ i : Nat, i ≤ m ∧ iv = .int .i64 (i : Int) ∧ Hid (∀ j (hj : j < v.2.length), j < i → 0 ≤ v.2[j].2.1 → provedS ts view v.2[j] = true) ∧ Below w1.heap.size w1 wr) (fun iv _ => m - (intOf iv).toNat)
    case atStart => exact ⟨0, Nat.zero_le _, rfl, fun j _ h => absurd h (by omega), Below.refl _ _⟩
    case round =>
      obtain ⟨i, him, rfl, hgo, hbr⟩ := hrel
      have x1 := keepc hbr x1
      have hl2 := Nat.lt_of_lt_of_le hl1 hbr.size
      have hBr := hB1.trans (hbr.mono hB1.size)
      by_cases hlt : i < m
      · have hlx : i < v.2.length := by have := hm'.out; omega
        obtain ⟨b', off, rfl, hlo, hbh⟩ := hv2.addr hlx
        obtain ⟨a0, a1, a2, a3, a4, a5, a6⟩ := (hv2.below (flat_kept _) hbr hhi2').claim hlx
        cases eg : decide (view ≤ v.2[i].2.1)
        · have hgv : v.2[i].2.1 < view := by have := of_decide_eq_false eg; omega
          have hrd := hide (ready_any hs2 hhi2 (hany2.out _ (List.getElem_mem hlx)) (by omega) wr hbr)
          go_wp2_with fail
          refine hrd.out.mono ?_
          rintro e w2 ⟨b, rfl, hb, hb2⟩
          have hBr2 := hBr.trans (hb2.mono hBr.size)
          cases b
          · have hno : Hid ((∀ k ∈ v.2, 0 ≤ k.2.1) → false = turnS ts view v) := hide (fun h => by
              have h9 := hb (h _ (List.getElem_mem hlx))
              unfold turnS
              rw [allV_no hlx (show provedS ts view v.2[i] = false by unfold provedS; rw [← h9]; simp)]
              simp)
            go_wp2
            go_ret
            exact ⟨_, rfl, hno.out, hBr2⟩
          · have hyes : Hid (0 ≤ v.2[i].2.1 → provedS ts view v.2[i] = true) := hide (fun h => by unfold provedS; rw [← hb h]; simp [hgv])
            go_wp2
            go_roundw
            case rel => exact ⟨i + 1, by omega, by go_num, fun j hj h => by
              by_cases h9 : j < i
              · exact hgo.out j hj h9
              · obtain rfl : j = i := by omega
                exact hyes.out, hbr.trans (hb2.mono hbr.size)⟩
            case measure => simp [intOf]; omega
        · have hno : Hid ((∀ k ∈ v.2, 0 ≤ k.2.1) → false = turnS ts view v) := hide (fun _ => by
            have h9 := of_decide_eq_true eg
            unfold turnS
            rw [allV_no hlx (show provedS ts view v.2[i] = false by unfold provedS; rw [decide_eq_false (by omega)]; rfl)]
            simp)
          go_wp2
          go_ret
          exact ⟨_, rfl, hno.out, hBr⟩
      · obtain rfl : i = m := by omega
        have hyes : Hid ((∀ k ∈ v.2, 0 ≤ k.2.1) → true = turnS ts view v) := hide (fun h => by
          unfold turnS
          rw [ehh.out, allV_yes fun j hj => hgo.out j hj (by rw [hm'.out]; exact hj) (h _ (List.getElem_mem hj))]
          rfl)
        go_wp2
        go_ret
        exact ⟨_, rfl, hyes.out, hBr⟩
def okVotesS (ts : List MsgT) (view : Int) (vs : List VoteT) : Bool := decide (okVs vs) && (vs.all (turnS ts view) && decide (vs.length = 3))
theorem okVs_cl {vs : List VoteT} (h : okVs vs) {v : VoteT} (hv : v ∈ vs) {k : ClaimT} (hk : k ∈ v.2) : okCl k = true := by
  obtain ⟨i, hi, rfl⟩ := List.mem_iff_getElem.1 hv
  obtain ⟨j, hj, rfl⟩ := List.mem_iff_getElem.1 hk
  obtain ⟨_, _, h3, _⟩ := h i hi
  obtain ⟨_, h4, _⟩ := h3 j hj
  exact h4
theorem okCl_view {k : ClaimT} (h : okCl k = true) : 0 ≤ k.2.1 ∧ k.2.1 ≤ 6 := by
  unfold okCl at h
  simp only [Bool.and_eq_true] at h
  have h2 := h.2.1
  unfold inB at h2
  simpa using h2
set_option maxRecDepth 100000 in
set_option maxHeartbeats 4000000 in
theorem l4Votes_c (A : Option Addr) (n c0 lo hi : Nat) (ts : List MsgT) (view : Int) (B : Option Addr) (m d lo' hi' : Nat) (vs : List VoteT) (w : World) (hs : RdN 11 msgR w lo hi A n c0 ts) (hvs : RdN 2 voteR w lo' hi' B m d vs) (hhi : hi ≤ w.heap.size) (hhi' : hi' ≤ w.heap.size) (hvw : view ≤ 1000000) (hany : ∀ v ∈ vs, ∀ k ∈ v.2, AnyReady A n c0 w k) :
    Calls Try.prog 35 #[.slice A n c0, .int .i64 view, .slice B m d] w fun e w' => e = .returned (.bool (okVotesS ts view vs)) ∧ Below w.heap.size w w' := by
  have hm' := hide hvs.len
  have hmm : m ≤ maxLen := Nat.le_trans hvs.cap hvs.max
  unfold maxLen at hmm
  have hany1 := hide hany
  clear hany
  go_enter Try.func35, Try.ntmps35
  go_wp2
  go_loopw [7] (fun iv wr => ∃ i : Nat, i ≤ m ∧ iv = .int .i64 (i : Int) ∧ Hid (okVs vs → ∀ j (hj : j < vs.length), j < i → turnS ts view vs[j] = true) ∧ Below w.heap.size w wr) (fun iv _ => m - (intOf iv).toNat)
  case atStart => exact ⟨0, Nat.zero_le _, rfl, fun _ j _ h => absurd h (by omega), Below.refl _ _⟩
  case round =>
    obtain ⟨i, him, rfl, hgo, hbr⟩ := hrel
    have hzr := hbr.size
    by_cases hlt : i < m
    · have hlx : i < vs.length := by have := hm'.out; omega
      obtain ⟨b', off, rfl, hlo, hbh⟩ := hvs.addr hlx
      obtain ⟨A', n', c', a0, a1, r1⟩ := (hvs.below vote_kept hbr hhi').vote hlx
      have hke := hide (l4Turn_c A n c0 lo hi ts view vs[i] A' n' c' lo' hi' wr (hs.below msg_kept hbr hhi) r1 (Nat.le_trans hhi hzr) (Nat.le_trans hhi' hzr) hvw (fun k hk => (hany1.out _ (List.getElem_mem hlx) k hk).below hbr))
      go_wp2_with fail
      refine hke.out.mono ?_
      rintro e w2 ⟨b, rfl, hb, hb2⟩
      have hBr2 := hbr.trans (hb2.mono hbr.size)
      cases b
      · have hno : Hid (okVotesS ts view vs = false) := hide (by
          unfold okVotesS
          by_cases h : okVs vs
          · have h9 := hb (fun k hk => (okCl_view (okVs_cl h (List.getElem_mem hlx) hk)).1)
            rw [allV_no hlx h9.symm]
            simp
          · rw [decide_eq_false h]
            rfl)
        go_wp2
        go_ret
        exact ⟨by rw [hno.out]; rfl, hBr2⟩
      · have hyes : Hid (okVs vs → turnS ts view vs[i] = true) := hide (fun h => (hb (fun k hk => (okCl_view (okVs_cl h (List.getElem_mem hlx) hk)).1)).symm)
        go_wp2
        go_roundw
        case rel => exact ⟨i + 1, by omega, by go_num, fun h j hj h8 => by
          by_cases h9 : j < i
          · exact hgo.out h j hj h9
          · obtain rfl : j = i := by omega
            exact hyes.out h, hBr2⟩
        case measure => simp [intOf]; omega
    · obtain rfl : i = m := by omega
      have hvk := hide (l3VotesOk_c B i d lo' hi' vs wr (hvs.below vote_kept hbr hhi') (Nat.le_trans hhi' hzr))
      go_wp2_with fail
      refine hvk.out.mono ?_
      rintro e w2 ⟨rfl, hb2⟩
      have hBr2 := hbr.trans (hb2.mono hbr.size)
      cases e2 : decide (okVs vs)
      · have e2h := hide e2
        go_wp2
        go_ret
        exact ⟨by unfold okVotesS; rw [e2h.out]; rfl, hBr2⟩
      · have hall : Hid (vs.all (turnS ts view) = true) := hide (allV_yes fun j hj => hgo.out (of_decide_eq_true e2) j hj (by rw [hm'.out]; exact hj))
        have e2h := hide e2
        by_cases h3 : i = 3
        · have d3 : ((i : Int) == 3) = true := by simp; omega
          have h3h : Hid (vs.length = 3) := hide (by rw [← hm'.out]; exact h3)
          clear h3
          go_wp2
          go_ret
          exact ⟨by unfold okVotesS; rw [e2h.out, hall.out, decide_eq_true h3h.out]; rfl, hBr2⟩
        · have d3 : ((i : Int) == 3) = false := by simp; omega
          have h3h : Hid (¬ vs.length = 3) := hide (by rw [← hm'.out]; exact h3)
          clear h3
          go_wp2
          go_ret
          exact ⟨by unfold okVotesS; rw [e2h.out, hall.out, decide_eq_false h3h.out]; rfl, hBr2⟩
theorem specVotesOk_c (A : Option Addr) (n c0 lo hi : Nat) (ts : List MsgT) (view : Int) (B : Option Addr) (m d lo' hi' : Nat) (vs : List VoteT) (w : World) (hs : RdN 11 msgR w lo hi A n c0 ts) (hvs : RdN 2 voteR w lo' hi' B m d vs) (hhi : hi ≤ w.heap.size) (hhi' : hi' ≤ w.heap.size) (hany : ∀ v ∈ vs, ∀ k ∈ v.2, AnyReady A n c0 w k) :
    Calls Try.prog 13 #[.slice A n c0, .int .i64 view, .slice B m d] w fun e w' => e = .returned (.bool (inB view 0 6 && okVotesS ts view vs)) ∧ Below w.heap.size w w' := by
  have hany1 := hide hany
  clear hany
  cases e1 : inB view 0 6
  · have e1h := hide e1
    go_enter Try.func13, Try.ntmps13
    go_wp2_with (first | (go_at_call 34; refine (l1In_c _ _ _ _).mono ?_; rintro e w2 ⟨rfl, rfl⟩; rw [e1]) | fail)
    go_ret
    exact ⟨rfl, Below.refl _ _⟩
  · have e1h := hide e1
    have hvw : view ≤ 1000000 := by unfold inB at e1; simp at e1; omega
    have hke := hide (l4Votes_c A n c0 lo hi ts view B m d lo' hi' vs w hs hvs hhi hhi' hvw hany1.out)
    go_enter Try.func13, Try.ntmps13
    go_wp2_with (first | (go_at_call 34; refine (l1In_c _ _ _ _).mono ?_; rintro e w2 ⟨rfl, rfl⟩; rw [e1]) | fail)
    refine hke.out.mono ?_
    rintro e w1 ⟨rfl, hb1⟩
    go_wp2
    go_ret
    exact ⟨rfl, hb1⟩
def bareTurns (ts : List MsgT) : Prop := ∀ x ∈ ts, x.1 = 5 → x.2.2.2.1 = 0 ∧ x.2.2.2.2.1 = (0, 0, 0, 0, 0) ∧ x.2.2.2.2.2.2 = []
theorem turnsI_M (view : Int) (v : VoteT) : turnsI view v (turnM view v) = true := by simp [turnsI, turnM]
theorem turn_eq {ts : List MsgT} (h : bareTurns ts) (view : Int) (v : VoteT) : ts.any (turnsI view v) = decide (turnM view v ∈ ts) := by
  rw [Bool.eq_iff_iff, List.any_eq_true, decide_eq_true_eq]
  constructor
  · rintro ⟨x, hx, ht⟩
    simp only [turnsI, Bool.and_eq_true, beq_iff_eq, decide_eq_true_eq] at ht
    obtain ⟨t1, t2, t3, t4⟩ := ht
    obtain ⟨b1, b2, b3⟩ := h x hx t1
    have : x = turnM view v := by
      obtain ⟨x1, x2, x3, x4, x5, x6, x7⟩ := x
      simp only at t1 t2 t3 t4 b1 b2 b3
      unfold turnM
      rw [t1, t2, t3, t4, b1, b2, b3]
    rw [← this]
    exact hx
  · intro hx
    exact ⟨_, hx, turnsI_M view v⟩
theorem good_eq {ts : List MsgT} (h : bareTurns ts) (view : Int) {v : VoteT} (hc : ∀ k ∈ v.2, okCl k = true) : goodI ts view v = turnS ts view v := by
  unfold goodI turnS
  rw [turn_eq h]
  congr 1
  rw [Bool.eq_iff_iff, Bool.not_eq_true', List.any_eq_false, List.all_eq_true]
  constructor
  · intro h1 k hk
    have h2 := h1 k hk
    simp only [lateB, readyI, hc k hk, Bool.true_and, Bool.or_eq_true, decide_eq_true_eq, Bool.not_eq_true', not_or] at h2
    simp only [provedS, Bool.and_eq_true, decide_eq_true_eq]
    exact ⟨by omega, by simpa using h2.2⟩
  · intro h1 k hk
    have h2 := h1 k hk
    simp only [provedS, Bool.and_eq_true, decide_eq_true_eq] at h2
    simp only [lateB, readyI, hc k hk, Bool.true_and, Bool.or_eq_true, decide_eq_true_eq, Bool.not_eq_true', not_or]
    exact ⟨by omega, by simp [h2.2]⟩
theorem votes_eq {ts : List MsgT} (h : bareTurns ts) (view : Int) (vs : List VoteT) : okVotesI ts view vs = (inB view 0 6 && okVotesS ts view vs) := by
  unfold okVotesI okVotesS
  congr 1
  by_cases hok : okVs vs
  · have : vs.all (goodI ts view) = vs.all (turnS ts view) := by
      rw [Bool.eq_iff_iff, List.all_eq_true, List.all_eq_true]
      constructor
      · intro h1 v hv
        rw [← good_eq h view (fun k hk => okVs_cl hok hv hk)]
        exact h1 v hv
      · intro h1 v hv
        rw [good_eq h view (fun k hk => okVs_cl hok hv hk)]
        exact h1 v hv
    rw [this, decide_eq_true hok]
    cases decide (vs.length = 3) <;> cases vs.all (turnS ts view) <;> rfl
  · rw [decide_eq_false hok]
    cases decide (vs.length = 3) <;> rfl
theorem ready_up {ts : List MsgT} {m : MsgT} {c : ClaimT} (h : readyI ts c = true) : readyI (ts ++ [m]) c = true := by
  have hc : ∀ kind but, countOf ts kind c but ≤ countOf (ts ++ [m]) kind c but := fun kind but => by
    rw [← cnt4_count, ← cnt4_count]
    have hj : ∀ j, saidBy ts kind c but j = true → saidBy (ts ++ [m]) kind c but j = true := fun j hj => by
      simp only [saidBy, List.any_append, Bool.and_eq_true, Bool.or_eq_true] at hj ⊢
      exact ⟨hj.1, .inl hj.2⟩
    have h1 : ∀ j, (if saidBy ts kind c but j then 1 else 0 : Nat) ≤ (if saidBy (ts ++ [m]) kind c but j then 1 else 0) := fun j => by
      cases hf : saidBy ts kind c but j
      · simp
      · simp [hj j hf]
    have := h1 0; have := h1 1; have := h1 2; have := h1 3
    unfold cnt4
    omega
  rw [readyI_eq] at h ⊢
  simp only [Bool.and_eq_true, List.any_append, Bool.or_eq_true, decide_eq_true_eq] at h ⊢
  exact ⟨h.1, .inl h.2.1, Nat.le_trans h.2.2 (hc 3 _)⟩
theorem votes_up {ts : List MsgT} {m : MsgT} {view : Int} {vs : List VoteT} (h : okVotesI ts view vs = true) : okVotesI (ts ++ [m]) view vs = true := by
  unfold okVotesI at h ⊢
  simp only [Bool.and_eq_true, List.all_eq_true] at h ⊢
  refine ⟨h.1, h.2.1, h.2.2.1, fun v hv => ?_⟩
  have h1 := h.2.2.2 v hv
  unfold goodI at h1 ⊢
  simp only [Bool.and_eq_true, List.any_append, Bool.or_eq_true, Bool.not_eq_true', List.any_eq_false] at h1 ⊢
  refine ⟨.inl h1.1, fun k hk => ?_⟩
  have h2 := h1.2 k hk
  simp only [lateB, Bool.or_eq_true, Bool.not_eq_true', not_or] at h2 ⊢
  exact ⟨h2.1, by rw [ready_up (by simpa using h2.2)]; simp⟩
theorem votes_two {ts : List MsgT} {view : Int} {vs : List VoteT} (h : vs.length ≠ 3) : okVotesI ts view vs = false := by
  unfold okVotesI
  rw [decide_eq_false h]
  cases inB view 0 6 <;> rfl
theorem votes_len {ts : List MsgT} {view : Int} {vs : List VoteT} (h : okVotesI ts view vs = true) : vs.length = 3 := by
  unfold okVotesI at h
  simp only [Bool.and_eq_true, decide_eq_true_eq] at h
  exact h.2.1
theorem votes_up_ {ts : List MsgT} {view : Int} {vs : List VoteT} (h : okVotesI ts view vs = true) : ∀ i (hi : i < vs.length) (h0 : 0 < i), vs[i - 1].1 < vs[i].1 := by
  unfold okVotesI at h
  simp only [Bool.and_eq_true, decide_eq_true_eq] at h
  intro i hi h0
  obtain ⟨_, _, _, h4⟩ := h.2.2.1 i hi
  exact h4 h0
theorem votes_said {ts : List MsgT} (hb : bareTurns ts) {view : Int} {vs : List VoteT} (h : okVotesI ts view vs = true) : ∀ i (hi : i < vs.length), turnM view vs[i] ∈ ts := by
  unfold okVotesI at h
  simp only [Bool.and_eq_true, decide_eq_true_eq, List.all_eq_true] at h
  intro i hi
  have h1 := h.2.2.2 _ (List.getElem_mem hi)
  unfold goodI at h1
  simp only [Bool.and_eq_true] at h1
  have h2 := h1.1
  rw [turn_eq hb] at h2
  exact of_decide_eq_true h2
end Go.Proofs.Ytopmbnnjhoinkaa
