/-
  What 'LAc' rests on (texts of this seat put together: NS).
  Conditions: none.
-/
import Derived.Test.YtopmbnnjhoinkaaGreatZZ18
namespace Go.Proofs.YtopmbnnjhoinkaaGreat
open Go.RowKit Rg
set_option linter.unusedVariables false
set_option linter.unusedSimpArgs false
set_option maxHeartbeats 1000000
theorem taken1_c (t : ClaimT) (v s : Int) (b1 b2 : Nat) (w : World) (h1 : w.cell? ⟨b1, 0, none⟩ = some (.int .i64 v)) (h2 : w.cell? ⟨b2, 0, none⟩ = some (.int .i64 s)) :
    Calls Tryz.prog 64 #[.agg #[.int .i64 t.1, .int .i64 t.2.1, .int .i64 t.2.2.1, .int .i64 t.2.2.2.1, .int .i64 t.2.2.2.2.1, .int .i64 t.2.2.2.2.2.1, .int .i64 t.2.2.2.2.2.2], .pointer (some ⟨b1, 0, none⟩), .pointer (some ⟨b2, 0, none⟩)] w fun e w' => e = .returned (.bool ((t.2.1 == v) && (t.1 == s))) ∧ Below w.heap.size w w' := by
  have hA := (Below.refl w.heap.size w).alloc (Nat.le_refl _) (.cells #[.int .i64 t.1, .int .i64 t.2.1, .int .i64 t.2.2.1, .int .i64 t.2.2.2.1, .int .i64 t.2.2.2.2.1, .int .i64 t.2.2.2.2.2.1, .int .i64 t.2.2.2.2.2.2] 41)
  have hl1 := lt_of_cell h1
  have hl2 := lt_of_cell h2
  have hne1 : b1 ≠ w.heap.size := Nat.ne_of_lt hl1
  have hne2 : b2 ≠ w.heap.size := Nat.ne_of_lt hl2
  have h1 := keepc hA h1
  have h2 := keepc hA h2
  cases e1 : (t.2.1 == v)
  all_goals
    have e1' := hide e1
    go_enter Tryz.func64, Tryz.ntmps64
    go_wp2
    go_ret
    exact ⟨congrArg (fun b => Ending.returned (.bool b)) (by simp [e1'.out]), hA⟩
theorem index_taken (A : Option Addr) (n c lo hi : Nat) (ts : List ClaimT) (b1 : Nat) (b2 : Nat) (p : ClaimT → Bool) (w : World) (hs : RdN 7 clR w lo hi A n c ts) (hhi : hi ≤ w.heap.size) (hp : ∀ (k : Nat) (hk : k < ts.length) (W : World), Below w.heap.size w W → Calls Tryz.prog 64 #[.agg #[.int .i64 ts[k].1, .int .i64 ts[k].2.1, .int .i64 ts[k].2.2.1, .int .i64 ts[k].2.2.2.1, .int .i64 ts[k].2.2.2.2.1, .int .i64 ts[k].2.2.2.2.2.1, .int .i64 ts[k].2.2.2.2.2.2], .pointer (some ⟨b1, 0, none⟩), .pointer (some ⟨b2, 0, none⟩)] W fun e W' => e = .returned (.bool (p ts[k])) ∧ Below W.heap.size W W') :
    Calls Tryz.prog 73 #[.slice A n c, .func (.func 64) #[] #[.pointer (some ⟨b1, 0, none⟩), .pointer (some ⟨b2, 0, none⟩)]] w fun e w' => ∃ i : Int, e = .returned (.int .i64 i) ∧ (i = -1 ∧ ts.any p = false ∨ 0 ≤ i ∧ ts.any p = true) ∧ Below w.heap.size w w' := by
  have hn' := hide hs.len
  have hc1 := hs.cap
  have hc2 := hs.max
  unfold maxLen at hc2
  have hp' := hide hp
  clear hp
  go_enter Tryz.func73, Tryz.ntmps73
  go_wp2
  go_loopw [8, 5] (fun i _ wr => ∃ k : Nat, k ≤ n ∧ i = .int .i64 k ∧ Hid (∀ j (h : j < ts.length), j < k → ¬ p ts[j] = true) ∧ Below w.heap.size w wr) (fun i _ _ => n - (intOf i).toNat)
  case atStart => exact ⟨0, Nat.zero_le _, rfl, fun j h h' => absurd h' (by omega), Below.refl _ _⟩
  case round =>
    obtain ⟨k, hk, rfl, hno, hbr⟩ := hrel
    by_cases hlt : k < n
    · have hlx : k < ts.length := by have := hn'.out; omega
      obtain ⟨b', off, rfl, hlo, hbh⟩ := hs.addr hlx
      obtain ⟨a0, a1, a2, a3, a4, a5, a6⟩ := (hs.below (flat_kept _) hbr hhi).claim hlx
      go_wp2_with fail
      refine (hp'.out k hlx wr hbr).mono ?_
      rintro e w1 ⟨rfl, hb1⟩
      cases he : p ts[k]
      · have he' := hide he
        go_wp2
        go_roundw
        case rel => exact ⟨k + 1, by omega, by go_num, fun j hj hjk h => by
          by_cases h2 : j < k
          · exact hno.out j hj h2 h
          · obtain rfl : j = k := by omega
            have := he'.out
            simp [h] at this, hbr.trans (hb1.mono hbr.size)⟩
        case measure => simp [intOf]; omega
      · have he' : Hid (ts.any p = true) := hide (List.any_eq_true.2 ⟨ts[k], List.getElem_mem hlx, he⟩)
        go_wp2
        go_ret
        exact ⟨k, rfl, .inr ⟨by omega, he'.out⟩, hbr.trans (hb1.mono hbr.size)⟩
    · obtain rfl : k = n := by omega
      go_wp2
      go_ret
      refine ⟨-1, rfl, .inl ⟨rfl, ?_⟩, hbr⟩
      simp only [List.any_eq_false]
      intro x hx
      obtain ⟨j, hj, rfl⟩ := List.mem_iff_getElem.1 hx
      exact hno.out j hj (by have := hn'.out; omega)
theorem contains_taken (A : Option Addr) (n c lo hi : Nat) (ts : List ClaimT) (b1 : Nat) (b2 : Nat) (p : ClaimT → Bool) (w : World) (hs : RdN 7 clR w lo hi A n c ts) (hhi : hi ≤ w.heap.size) (hp : ∀ (k : Nat) (hk : k < ts.length) (W : World), Below w.heap.size w W → Calls Tryz.prog 64 #[.agg #[.int .i64 ts[k].1, .int .i64 ts[k].2.1, .int .i64 ts[k].2.2.1, .int .i64 ts[k].2.2.2.1, .int .i64 ts[k].2.2.2.2.1, .int .i64 ts[k].2.2.2.2.2.1, .int .i64 ts[k].2.2.2.2.2.2], .pointer (some ⟨b1, 0, none⟩), .pointer (some ⟨b2, 0, none⟩)] W fun e W' => e = .returned (.bool (p ts[k])) ∧ Below W.heap.size W W') :
    Calls Tryz.prog 63 #[.slice A n c, .func (.func 64) #[] #[.pointer (some ⟨b1, 0, none⟩), .pointer (some ⟨b2, 0, none⟩)]] w fun e w' => e = .returned (.bool (ts.any p)) ∧ Below w.heap.size w w' := by
  have hp' := hide hp
  clear hp
  go_enter Tryz.func63, Tryz.ntmps63
  go_wp2_with fail
  refine (index_taken A n c lo hi ts b1 b2 p w hs hhi hp'.out).mono ?_
  rintro e w1 ⟨i, rfl, hi, hb1⟩
  rcases hi with ⟨rfl, h⟩ | ⟨h1, h⟩
  · have h' := hide h
    go_wp2
    go_ret
    exact ⟨by rw [h'.out]; rfl, hb1⟩
  · have h' := hide h
    have d1 : decide (0 ≤ i) = true := by simpa using h1
    go_wp2
    go_ret
    exact ⟨by rw [h'.out]; simp [h1], hb1⟩
theorem taken_c (A : Option Addr) (n c lo hi : Nat) (ts : List ClaimT) (v s : Int) (w : World) (hs : RdN 7 clR w lo hi A n c ts) (hhi : hi ≤ w.heap.size) :
    Calls Tryz.prog 40 #[.slice A n c, .int .i64 v, .int .i64 s] w fun e w' => e = .returned (.bool (ts.any fun t => (t.2.1 == v) && (t.1 == s))) ∧ Below w.heap.size w w' := by
  have hA : Below w.heap.size w ((w.alloc (.cells #[.int .i64 v] 3)).alloc (.cells #[.int .i64 s] 3)) := ((Below.refl _ _).alloc (Nat.le_refl _) _).alloc (by simp) _
  have y1 : ((w.alloc (.cells #[.int .i64 v] 3)).alloc (.cells #[.int .i64 s] 3)).cell? ⟨w.heap.size, 0, none⟩ = some (.int .i64 v) := by simp
  have y2 : ((w.alloc (.cells #[.int .i64 v] 3)).alloc (.cells #[.int .i64 s] 3)).cell? ⟨w.heap.size + 1, 0, none⟩ = some (.int .i64 s) := by simp
  have hs1 := hs.below (flat_kept _) hA hhi
  have hz := hA.size
  go_enter Tryz.func40, Tryz.ntmps40
  go_wp2_with fail
  generalize (w.alloc (.cells #[.int .i64 v] 3)).alloc (.cells #[.int .i64 s] 3) = w1 at *
  refine (contains_taken A n c lo hi ts w.heap.size (w.heap.size + 1) (fun t => (t.2.1 == v) && (t.1 == s)) w1 hs1 (Nat.le_trans hhi hz) (fun k hk W hW => taken1_c ts[k] v s _ _ W (keepc hW y1) (keepc hW y2))).mono ?_
  rintro e w2 ⟨rfl, hb2⟩
  go_wp2
  go_ret
  exact ⟨rfl, hA.trans (hb2.mono hz)⟩
theorem repOk1_c (t : MsgT) (A B : Option Addr) (n c p d lo hi : Nat) (w : World) (h0 : RdN 7 clR w lo hi A n c t.2.2.2.2.2.1) (h1 : RdN 2 voteR w lo hi B p d t.2.2.2.2.2.2) (hhi : hi ≤ w.heap.size) :
    Calls Tryz.prog 41 #[.agg #[.int .i64 t.1, .int .i64 t.2.1, .int .i64 t.2.2.1, .int .i64 t.2.2.2.1, .int .i64 t.2.2.2.2.1.1, .int .i64 t.2.2.2.2.1.2.1, .int .i64 t.2.2.2.2.1.2.2.1, .int .i64 t.2.2.2.2.1.2.2.2.1, .int .i64 t.2.2.2.2.1.2.2.2.2, .slice A n c, .slice B p d]] w fun e w' => e = .returned (.bool (!okH t)) ∧ Below w.heap.size w w' := by
  have hA := (Below.refl w.heap.size w).alloc (Nat.le_refl _) (.cells #[.int .i64 t.1, .int .i64 t.2.1, .int .i64 t.2.2.1, .int .i64 t.2.2.2.1, .int .i64 t.2.2.2.2.1.1, .int .i64 t.2.2.2.2.1.2.1, .int .i64 t.2.2.2.2.1.2.2.1, .int .i64 t.2.2.2.2.1.2.2.2.1, .int .i64 t.2.2.2.2.1.2.2.2.2, .slice A n c, .slice B p d] 46)
  have hz := hA.size
  cases e1 : inB t.1 3 5
  · have e1' := hide e1
    go_enter Tryz.func41, Tryz.ntmps41
    go_wp2_with (go_at_call 31; refine (in_c _ _ _ _).mono ?_; rintro e w' ⟨rfl, rfl⟩; rw [e1])
    go_ret
    exact ⟨congrArg (fun b => Ending.returned (.bool b)) (by simp [okH, e1'.out]), hA⟩
  · have e1' := hide e1
    go_enter Tryz.func41, Tryz.ntmps41
    go_wp2_with (first
      | (go_at_call 31; refine (in_c _ _ _ _).mono ?_; rintro e w' ⟨rfl, rfl⟩; rw [e1])
      | (go_at_call 23; refine (MsgOkT_c t A B n c p d lo hi _ (h0.below (flat_kept _) hA hhi) (h1.below vote_kept hA hhi) (Nat.le_trans hhi hz)).mono ?_; rintro e w1 ⟨rfl, hb1⟩))
    go_ret
    exact ⟨congrArg (fun b => Ending.returned (.bool b)) (by simp [okH, e1'.out]), hA.trans (hb1.mono hz)⟩
theorem index_repOk (A : Option Addr) (n c lo hi : Nat) (ts : List MsgT) (p : MsgT → Bool) (w : World) (hs : RdN 11 msgR w lo hi A n c ts) (hhi : hi ≤ w.heap.size) (hp : ∀ (k : Nat) (hk : k < ts.length) (W : World) (A1 B1 : Option Addr) (n1 c1 p1 d1 : Nat), Below w.heap.size w W → RdN 7 clR W lo hi A1 n1 c1 ts[k].2.2.2.2.2.1 → RdN 2 voteR W lo hi B1 p1 d1 ts[k].2.2.2.2.2.2 → Calls Tryz.prog 41 #[.agg #[.int .i64 ts[k].1, .int .i64 ts[k].2.1, .int .i64 ts[k].2.2.1, .int .i64 ts[k].2.2.2.1, .int .i64 ts[k].2.2.2.2.1.1, .int .i64 ts[k].2.2.2.2.1.2.1, .int .i64 ts[k].2.2.2.2.1.2.2.1, .int .i64 ts[k].2.2.2.2.1.2.2.2.1, .int .i64 ts[k].2.2.2.2.1.2.2.2.2, .slice A1 n1 c1, .slice B1 p1 d1]] W fun e W' => e = .returned (.bool (p ts[k])) ∧ Below W.heap.size W W') :
    Calls Tryz.prog 42 #[.slice A n c, .func (.func 41) #[] #[]] w fun e w' => ∃ i : Int, e = .returned (.int .i64 i) ∧ (i = -1 ∧ ts.any p = false ∨ 0 ≤ i ∧ ts.any p = true) ∧ Below w.heap.size w w' := by
  have hn' := hide hs.len
  have hc1 := hs.cap
  have hc2 := hs.max
  unfold maxLen at hc2
  have hp' := hide hp
  clear hp
  go_enter Tryz.func42, Tryz.ntmps42
  go_wp2
  go_loopw [8, 5] (fun i _ wr => ∃ k : Nat, k ≤ n ∧ i = .int .i64 k ∧ Hid (∀ j (h : j < ts.length), j < k → ¬ p ts[j] = true) ∧ Below w.heap.size w wr) (fun i _ _ => n - (intOf i).toNat)
  case atStart => exact ⟨0, Nat.zero_le _, rfl, fun j h h' => absurd h' (by omega), Below.refl _ _⟩
  case round =>
    obtain ⟨k, hk, rfl, hno, hbr⟩ := hrel
    by_cases hlt : k < n
    · have hlx : k < ts.length := by have := hn'.out; omega
      obtain ⟨b', off, rfl, hlo, hbh⟩ := hs.addr hlx
      obtain ⟨A1, n1, c1, B1, p1, d1, a0, a1, a2, a3, a4, a5, a6, a7, a8, a9, a10, r0, r1⟩ := (hs.below msg_kept hbr hhi).msg hlx
      go_wp2_with fail
      refine (hp'.out k hlx wr _ _ _ _ _ _ hbr r0 r1).mono ?_
      rintro e w1 ⟨rfl, hb1⟩
      cases he : p ts[k]
      · have he' := hide he
        go_wp2
        go_roundw
        case rel => exact ⟨k + 1, by omega, by go_num, fun j hj hjk h => by
          by_cases h2 : j < k
          · exact hno.out j hj h2 h
          · obtain rfl : j = k := by omega
            have := he'.out
            simp [h] at this, hbr.trans (hb1.mono hbr.size)⟩
        case measure => simp [intOf]; omega
      · have he' : Hid (ts.any p = true) := hide (List.any_eq_true.2 ⟨ts[k], List.getElem_mem hlx, he⟩)
        go_wp2
        go_ret
        exact ⟨k, rfl, .inr ⟨by omega, he'.out⟩, hbr.trans (hb1.mono hbr.size)⟩
    · obtain rfl : k = n := by omega
      go_wp2
      go_ret
      refine ⟨-1, rfl, .inl ⟨rfl, ?_⟩, hbr⟩
      simp only [List.any_eq_false]
      intro x hx
      obtain ⟨j, hj, rfl⟩ := List.mem_iff_getElem.1 hx
      exact hno.out j hj (by have := hn'.out; omega)
theorem contains_repOk (A : Option Addr) (n c lo hi : Nat) (ts : List MsgT) (p : MsgT → Bool) (w : World) (hs : RdN 11 msgR w lo hi A n c ts) (hhi : hi ≤ w.heap.size) (hp : ∀ (k : Nat) (hk : k < ts.length) (W : World) (A1 B1 : Option Addr) (n1 c1 p1 d1 : Nat), Below w.heap.size w W → RdN 7 clR W lo hi A1 n1 c1 ts[k].2.2.2.2.2.1 → RdN 2 voteR W lo hi B1 p1 d1 ts[k].2.2.2.2.2.2 → Calls Tryz.prog 41 #[.agg #[.int .i64 ts[k].1, .int .i64 ts[k].2.1, .int .i64 ts[k].2.2.1, .int .i64 ts[k].2.2.2.1, .int .i64 ts[k].2.2.2.2.1.1, .int .i64 ts[k].2.2.2.2.1.2.1, .int .i64 ts[k].2.2.2.2.1.2.2.1, .int .i64 ts[k].2.2.2.2.1.2.2.2.1, .int .i64 ts[k].2.2.2.2.1.2.2.2.2, .slice A1 n1 c1, .slice B1 p1 d1]] W fun e W' => e = .returned (.bool (p ts[k])) ∧ Below W.heap.size W W') :
    Calls Tryz.prog 21 #[.slice A n c, .func (.func 41) #[] #[]] w fun e w' => e = .returned (.bool (ts.any p)) ∧ Below w.heap.size w w' := by
  have hp' := hide hp
  clear hp
  go_enter Tryz.func21, Tryz.ntmps21
  go_wp2_with fail
  refine (index_repOk A n c lo hi ts p w hs hhi hp'.out).mono ?_
  rintro e w1 ⟨i, rfl, hi, hb1⟩
  rcases hi with ⟨rfl, h⟩ | ⟨h1, h⟩
  · have h' := hide h
    go_wp2
    go_ret
    exact ⟨by rw [h'.out]; rfl, hb1⟩
  · have h' := hide h
    have d1 : decide (0 ≤ i) = true := by simpa using h1
    go_wp2
    go_ret
    exact ⟨by rw [h'.out]; simp [h1], hb1⟩
theorem any_not {ts : List MsgT} : ts.any (fun m => !okH m) = !ts.all okH := by
  induction ts with
  | nil => rfl
  | cons t ts ih => simp [List.any_cons, List.all_cons, ih, Bool.not_and]
theorem goodT_any {ts : List ClaimT} {k : Nat} (hk : k < ts.length) (h1 : okCl ts[k] = true) (h2 : (ts.take k).any (fun t => (t.2.1 == ts[k].2.1) && (t.1 == ts[k].1)) = false) : goodT ts k := by
  refine ⟨hk, h1, fun j hj => ?_⟩
  have h3 := List.any_eq_false.1 h2 ts[j] (by rw [List.mem_iff_getElem]; exact ⟨j, by simp; omega, by simp⟩)
  simpa [alike2] using h3
theorem goodT_no {ts : List ClaimT} {k : Nat} (hk : k < ts.length) (h2 : (ts.take k).any (fun t => (t.2.1 == ts[k].2.1) && (t.1 == ts[k].1)) = true) : ¬ goodT ts k := by
  rintro ⟨_, _, h⟩
  obtain ⟨x, hx, h3⟩ := List.any_eq_true.1 h2
  obtain ⟨j, hj, rfl⟩ := List.mem_iff_getElem.1 hx
  have hj' : j < k := by simp at hj; omega
  have := h j hj'
  rw [List.getElem_take] at h3
  unfold alike2 at this
  rw [this] at h3
  cases h3
set_option maxRecDepth 100000 in
set_option maxHeartbeats 4000000 in
theorem RepOk_c (t : RepT) (A B E : Option Addr) (n c p d q f : Nat) (lo hi : Nat) (w : World) (h0 : RdN 7 clR w lo hi A n c t.2.2.2.2.1) (h1 : RdN 11 msgR w lo hi B p d t.2.2.2.2.2.1) (h2 : RdN 7 clR w lo hi E q f t.2.2.2.2.2.2) (hhi : hi ≤ w.heap.size) :
    Calls Tryz.prog 20 #[.agg #[.int .i64 t.1, .int .i64 t.2.1, .bool t.2.2.1, .int .i64 t.2.2.2.1, .slice A n c, .slice B p d, .slice E q f]] w fun e w' => e = .returned (.bool (okRep t)) ∧ Below w.heap.size w w' := by
  have hB0 : Below w.heap.size w (w.alloc (.cells #[.int .i64 t.1, .int .i64 t.2.1, .bool t.2.2.1, .int .i64 t.2.2.2.1, .slice A n c, .slice B p d, .slice E q f] 31)) := (Below.refl _ _).alloc (Nat.le_refl _) _
  have hn' := hide h0.len
  have hp' := hide h1.len
  have hc1 := h0.cap
  have hc2 := h0.max
  have hd1 := h1.cap
  have hd2 := h1.max
  have hq1 := h2.cap
  have hq2 := h2.max
  unfold maxLen at hc2 hd2 hq2
  have x0 : (w.alloc (.cells #[.int .i64 t.1, .int .i64 t.2.1, .bool t.2.2.1, .int .i64 t.2.2.2.1, .slice A n c, .slice B p d, .slice E q f] 31)).cell? ⟨w.heap.size, 0, none⟩ = some (.int .i64 t.1) := by simp
  have x1 : (w.alloc (.cells #[.int .i64 t.1, .int .i64 t.2.1, .bool t.2.2.1, .int .i64 t.2.2.2.1, .slice A n c, .slice B p d, .slice E q f] 31)).cell? ⟨w.heap.size, 1, none⟩ = some (.int .i64 t.2.1) := by simp
  have x2 : (w.alloc (.cells #[.int .i64 t.1, .int .i64 t.2.1, .bool t.2.2.1, .int .i64 t.2.2.2.1, .slice A n c, .slice B p d, .slice E q f] 31)).cell? ⟨w.heap.size, 2, none⟩ = some (.bool t.2.2.1) := by simp
  have x3 : (w.alloc (.cells #[.int .i64 t.1, .int .i64 t.2.1, .bool t.2.2.1, .int .i64 t.2.2.2.1, .slice A n c, .slice B p d, .slice E q f] 31)).cell? ⟨w.heap.size, 3, none⟩ = some (.int .i64 t.2.2.2.1) := by simp
  have x4 : (w.alloc (.cells #[.int .i64 t.1, .int .i64 t.2.1, .bool t.2.2.1, .int .i64 t.2.2.2.1, .slice A n c, .slice B p d, .slice E q f] 31)).cell? ⟨w.heap.size, 4, none⟩ = some (.slice A n c) := by simp
  have x5 : (w.alloc (.cells #[.int .i64 t.1, .int .i64 t.2.1, .bool t.2.2.1, .int .i64 t.2.2.2.1, .slice A n c, .slice B p d, .slice E q f] 31)).cell? ⟨w.heap.size, 5, none⟩ = some (.slice B p d) := by simp
  have x6 : (w.alloc (.cells #[.int .i64 t.1, .int .i64 t.2.1, .bool t.2.2.1, .int .i64 t.2.2.2.1, .slice A n c, .slice B p d, .slice E q f] 31)).cell? ⟨w.heap.size, 6, none⟩ = some (.slice E q f) := by simp
  have hl : w.heap.size < (w.alloc (.cells #[.int .i64 t.1, .int .i64 t.2.1, .bool t.2.2.1, .int .i64 t.2.2.2.1, .slice A n c, .slice B p d, .slice E q f] 31)).heap.size := by simp
  have z1 : Hid (decide (t.2.2.2.2.1.length ≤ 40) = decide ((n : Int) ≤ 40)) := hide (by rw [← hn'.out, Bool.eq_iff_iff]; simp; omega)
  have z2 : Hid (decide (t.2.2.2.2.2.1.length ≤ 120) = decide ((p : Int) ≤ 120)) := hide (by rw [← hp'.out, Bool.eq_iff_iff]; simp; omega)
  have hkc := hide (fun W (h : Below w.heap.size w W) => claimsOk_c E q f lo hi t.2.2.2.2.2.2 W (h2.below (flat_kept _) h hhi) (Nat.le_trans hhi h.size))
  have g1 : decide (40 < (n : Int)) = !decide ((n : Int) ≤ 40) := by rw [Bool.eq_iff_iff]; simp
  have g2 : decide (120 < (p : Int)) = !decide ((p : Int) ≤ 120) := by rw [Bool.eq_iff_iff]; simp
  have hB := hB0
  cases f1 : inB t.1 0 3
  · have hr : Hid (okRep t = false) := hide (by
      have y1 := z1.out
      have y2 := z2.out
      simp only [okRep, y1, y2, f1]; simp)
    go_enter Tryz.func20, Tryz.ntmps20
    go_wp2_with (first
      | (go_at_call 14; refine (isKeeper_c _ _).mono ?_; rintro e w' ⟨rfl, rfl⟩; rw [f1])
      | fail)
    go_ret
    exact ⟨by rw [hr.out]; rfl, hB⟩
  cases f2 : inB t.2.1 0 6
  · have hr : Hid (okRep t = false) := hide (by
      have y1 := z1.out
      have y2 := z2.out
      simp only [okRep, y1, y2, f1, f2]; simp)
    go_enter Tryz.func20, Tryz.ntmps20
    go_wp2_with (first
      | (go_at_call 14; refine (isKeeper_c _ _).mono ?_; rintro e w' ⟨rfl, rfl⟩; rw [f1])
      | (go_at_call 37; refine (isView_c _ _).mono ?_; rintro e w' ⟨rfl, rfl⟩; rw [f2])
      | fail)
    go_ret
    exact ⟨by rw [hr.out]; rfl, hB⟩
  cases f3 : inB t.2.2.2.1 1 6
  · have hr : Hid (okRep t = false) := hide (by
      have y1 := z1.out
      have y2 := z2.out
      simp only [okRep, y1, y2, f1, f2, f3]; simp)
    go_enter Tryz.func20, Tryz.ntmps20
    go_wp2_with (first
      | (go_at_call 14; refine (isKeeper_c _ _).mono ?_; rintro e w' ⟨rfl, rfl⟩; rw [f1])
      | (go_at_call 37; refine (isView_c _ _).mono ?_; rintro e w' ⟨rfl, rfl⟩; rw [f2])
      | (go_at_call 31; refine (in_c _ _ _ _).mono ?_; rintro e w' ⟨rfl, rfl⟩; rw [f3])
      | fail)
    go_ret
    exact ⟨by rw [hr.out]; rfl, hB⟩
  cases f4 : decide ((n : Int) ≤ 40)
  · have hr : Hid (okRep t = false) := hide (by
      have y1 := z1.out
      have y2 := z2.out
      simp only [okRep, y1, y2, f1, f2, f3, f4]; simp)
    rw [f4] at g1
    clear f4
    go_enter Tryz.func20, Tryz.ntmps20
    go_wp2_with (first
      | (go_at_call 14; refine (isKeeper_c _ _).mono ?_; rintro e w' ⟨rfl, rfl⟩; rw [f1])
      | (go_at_call 37; refine (isView_c _ _).mono ?_; rintro e w' ⟨rfl, rfl⟩; rw [f2])
      | (go_at_call 31; refine (in_c _ _ _ _).mono ?_; rintro e w' ⟨rfl, rfl⟩; rw [f3])
      | fail)
    go_ret
    exact ⟨by rw [hr.out]; rfl, hB⟩
  cases f5 : decide ((p : Int) ≤ 120)
  · have hr : Hid (okRep t = false) := hide (by
      have y1 := z1.out
      have y2 := z2.out
      simp only [okRep, y1, y2, f1, f2, f3, f4, f5]; simp)
    rw [f4] at g1
    rw [f5] at g2
    clear f4 f5
    go_enter Tryz.func20, Tryz.ntmps20
    go_wp2_with (first
      | (go_at_call 14; refine (isKeeper_c _ _).mono ?_; rintro e w' ⟨rfl, rfl⟩; rw [f1])
      | (go_at_call 37; refine (isView_c _ _).mono ?_; rintro e w' ⟨rfl, rfl⟩; rw [f2])
      | (go_at_call 31; refine (in_c _ _ _ _).mono ?_; rintro e w' ⟨rfl, rfl⟩; rw [f3])
      | fail)
    go_ret
    exact ⟨by rw [hr.out]; rfl, hB⟩
  cases f6 : decide (okCls t.2.2.2.2.2.2)
  · have hr : Hid (okRep t = false) := hide (by
      have y1 := z1.out
      have y2 := z2.out
      simp only [okRep, y1, y2, f1, f2, f3, f4, f5, f6]; simp)
    rw [f4] at g1
    rw [f5] at g2
    clear f4 f5
    go_enter Tryz.func20, Tryz.ntmps20
    go_wp2_with (first
      | (go_at_call 14; refine (isKeeper_c _ _).mono ?_; rintro e w' ⟨rfl, rfl⟩; rw [f1])
      | (go_at_call 37; refine (isView_c _ _).mono ?_; rintro e w' ⟨rfl, rfl⟩; rw [f2])
      | (go_at_call 31; refine (in_c _ _ _ _).mono ?_; rintro e w' ⟨rfl, rfl⟩; rw [f3])
      | (go_at_call 38; refine (hkc.out _ hB).mono ?_; rintro e w3 ⟨rfl, hb3⟩; have hB := hB.trans (hb3.mono hB.size); rw [f6])
      | fail)
    go_ret
    exact ⟨by rw [hr.out]; rfl, hB⟩
  · have hr : Hid (okRep t = (decide (okTook t.2.2.2.2.1) && t.2.2.2.2.2.1.all okH)) := hide (by
      have y1 := z1.out
      have y2 := z2.out
      simp only [okRep, y1, y2, f1, f2, f3, f4, f5, f6]; simp)
    rw [f4] at g1
    rw [f5] at g2
    clear f4 f5
    go_enter Tryz.func20, Tryz.ntmps20
    go_wp2_with (first
      | (go_at_call 14; refine (isKeeper_c _ _).mono ?_; rintro e w' ⟨rfl, rfl⟩; rw [f1])
      | (go_at_call 37; refine (isView_c _ _).mono ?_; rintro e w' ⟨rfl, rfl⟩; rw [f2])
      | (go_at_call 31; refine (in_c _ _ _ _).mono ?_; rintro e w' ⟨rfl, rfl⟩; rw [f3])
      | (go_at_call 38; refine (hkc.out _ hB).mono ?_; rintro e w3 ⟨rfl, hb3⟩; have hB := hB.trans (hb3.mono hB.size); replace x0 := keepc hb3 x0; replace x1 := keepc hb3 x1; replace x2 := keepc hb3 x2; replace x3 := keepc hb3 x3; replace x4 := keepc hb3 x4; replace x5 := keepc hb3 x5; replace x6 := keepc hb3 x6; rw [f6])
      | fail)
    have hl3 : w.heap.size < w3.heap.size := lt_of_cell x0
    go_loopw [42, 3, 4] (fun i _ _ wr => ∃ k : Nat, k ≤ n ∧ i = .int .i64 k ∧ Hid (∀ i, i < k → goodT t.2.2.2.2.1 i) ∧ Below w3.heap.size w3 wr) (fun i _ _ _ => n - (intOf i).toNat)
    case atStart => exact ⟨0, Nat.zero_le _, rfl, fun i h => absurd h (by omega), Below.refl _ _⟩
    case round =>
      obtain ⟨k, hk, rfl, hgo, hbr⟩ := hrel
      have hBr := hB.trans (hbr.mono hB.size)
      have hzr := hbr.size
      have x0 := keepc hbr x0; have x1 := keepc hbr x1; have x2 := keepc hbr x2; have x3 := keepc hbr x3; have x4 := keepc hbr x4; have x5 := keepc hbr x5; have x6 := keepc hbr x6
      by_cases hlt : k < n
      · have hlx : k < t.2.2.2.2.1.length := by have := hn'.out; omega
        obtain ⟨b, off, rfl, hlo, hbh⟩ := h0.addr hlx
        obtain ⟨a0, a1, a2, a3, a4, a5, a6⟩ := (h0.below (flat_kept _) hBr hhi).claim hlx
        have hA := (Below.refl wr.heap.size wr).alloc (Nat.le_refl _) (.cells #[.int .i64 t.2.2.2.2.1[k].1, .int .i64 t.2.2.2.2.1[k].2.1, .int .i64 t.2.2.2.2.1[k].2.2.1, .int .i64 t.2.2.2.2.1[k].2.2.2.1, .int .i64 t.2.2.2.2.1[k].2.2.2.2.1, .int .i64 t.2.2.2.2.1[k].2.2.2.2.2.1, .int .i64 t.2.2.2.2.1[k].2.2.2.2.2.2] 41)
        have hB1 := hBr.trans (hA.mono hBr.size)
        have hr1 := hbr.trans (hA.mono hzr)
        have y0 : (wr.alloc (.cells #[.int .i64 t.2.2.2.2.1[k].1, .int .i64 t.2.2.2.2.1[k].2.1, .int .i64 t.2.2.2.2.1[k].2.2.1, .int .i64 t.2.2.2.2.1[k].2.2.2.1, .int .i64 t.2.2.2.2.1[k].2.2.2.2.1, .int .i64 t.2.2.2.2.1[k].2.2.2.2.2.1, .int .i64 t.2.2.2.2.1[k].2.2.2.2.2.2] 41)).cell? ⟨wr.heap.size, 0, none⟩ = some (.int .i64 t.2.2.2.2.1[k].1) := by simp
        have y1 : (wr.alloc (.cells #[.int .i64 t.2.2.2.2.1[k].1, .int .i64 t.2.2.2.2.1[k].2.1, .int .i64 t.2.2.2.2.1[k].2.2.1, .int .i64 t.2.2.2.2.1[k].2.2.2.1, .int .i64 t.2.2.2.2.1[k].2.2.2.2.1, .int .i64 t.2.2.2.2.1[k].2.2.2.2.2.1, .int .i64 t.2.2.2.2.1[k].2.2.2.2.2.2] 41)).cell? ⟨wr.heap.size, 1, none⟩ = some (.int .i64 t.2.2.2.2.1[k].2.1) := by simp
        have y2 : (wr.alloc (.cells #[.int .i64 t.2.2.2.2.1[k].1, .int .i64 t.2.2.2.2.1[k].2.1, .int .i64 t.2.2.2.2.1[k].2.2.1, .int .i64 t.2.2.2.2.1[k].2.2.2.1, .int .i64 t.2.2.2.2.1[k].2.2.2.2.1, .int .i64 t.2.2.2.2.1[k].2.2.2.2.2.1, .int .i64 t.2.2.2.2.1[k].2.2.2.2.2.2] 41)).cell? ⟨wr.heap.size, 2, none⟩ = some (.int .i64 t.2.2.2.2.1[k].2.2.1) := by simp
        have y3 : (wr.alloc (.cells #[.int .i64 t.2.2.2.2.1[k].1, .int .i64 t.2.2.2.2.1[k].2.1, .int .i64 t.2.2.2.2.1[k].2.2.1, .int .i64 t.2.2.2.2.1[k].2.2.2.1, .int .i64 t.2.2.2.2.1[k].2.2.2.2.1, .int .i64 t.2.2.2.2.1[k].2.2.2.2.2.1, .int .i64 t.2.2.2.2.1[k].2.2.2.2.2.2] 41)).cell? ⟨wr.heap.size, 3, none⟩ = some (.int .i64 t.2.2.2.2.1[k].2.2.2.1) := by simp
        have y4 : (wr.alloc (.cells #[.int .i64 t.2.2.2.2.1[k].1, .int .i64 t.2.2.2.2.1[k].2.1, .int .i64 t.2.2.2.2.1[k].2.2.1, .int .i64 t.2.2.2.2.1[k].2.2.2.1, .int .i64 t.2.2.2.2.1[k].2.2.2.2.1, .int .i64 t.2.2.2.2.1[k].2.2.2.2.2.1, .int .i64 t.2.2.2.2.1[k].2.2.2.2.2.2] 41)).cell? ⟨wr.heap.size, 4, none⟩ = some (.int .i64 t.2.2.2.2.1[k].2.2.2.2.1) := by simp
        have y5 : (wr.alloc (.cells #[.int .i64 t.2.2.2.2.1[k].1, .int .i64 t.2.2.2.2.1[k].2.1, .int .i64 t.2.2.2.2.1[k].2.2.1, .int .i64 t.2.2.2.2.1[k].2.2.2.1, .int .i64 t.2.2.2.2.1[k].2.2.2.2.1, .int .i64 t.2.2.2.2.1[k].2.2.2.2.2.1, .int .i64 t.2.2.2.2.1[k].2.2.2.2.2.2] 41)).cell? ⟨wr.heap.size, 5, none⟩ = some (.int .i64 t.2.2.2.2.1[k].2.2.2.2.2.1) := by simp
        have y6 : (wr.alloc (.cells #[.int .i64 t.2.2.2.2.1[k].1, .int .i64 t.2.2.2.2.1[k].2.1, .int .i64 t.2.2.2.2.1[k].2.2.1, .int .i64 t.2.2.2.2.1[k].2.2.2.1, .int .i64 t.2.2.2.2.1[k].2.2.2.2.1, .int .i64 t.2.2.2.2.1[k].2.2.2.2.2.1, .int .i64 t.2.2.2.2.1[k].2.2.2.2.2.2] 41)).cell? ⟨wr.heap.size, 6, none⟩ = some (.int .i64 t.2.2.2.2.1[k].2.2.2.2.2.2) := by simp
        have x0 := keepc hA x0; have x1 := keepc hA x1; have x2 := keepc hA x2; have x3 := keepc hA x3; have x4 := keepc hA x4; have x5 := keepc hA x5; have x6 := keepc hA x6
        have hlw : w.heap.size < (wr.alloc (.cells #[.int .i64 t.2.2.2.2.1[k].1, .int .i64 t.2.2.2.2.1[k].2.1, .int .i64 t.2.2.2.2.1[k].2.2.1, .int .i64 t.2.2.2.2.1[k].2.2.2.1, .int .i64 t.2.2.2.2.1[k].2.2.2.2.1, .int .i64 t.2.2.2.2.1[k].2.2.2.2.2.1, .int .i64 t.2.2.2.2.1[k].2.2.2.2.2.2] 41)).heap.size := lt_of_cell x0
        have hlr : wr.heap.size < (wr.alloc (.cells #[.int .i64 t.2.2.2.2.1[k].1, .int .i64 t.2.2.2.2.1[k].2.1, .int .i64 t.2.2.2.2.1[k].2.2.1, .int .i64 t.2.2.2.2.1[k].2.2.2.1, .int .i64 t.2.2.2.2.1[k].2.2.2.2.1, .int .i64 t.2.2.2.2.1[k].2.2.2.2.2.1, .int .i64 t.2.2.2.2.1[k].2.2.2.2.2.2] 41)).heap.size := lt_of_cell y0
        have htk := hide (fun W (h : Below w.heap.size w W) => taken_c (some ⟨b, off, none⟩) k c lo hi (t.2.2.2.2.1.take k) t.2.2.2.2.1[k].2.1 t.2.2.2.2.1[k].1 W ((h0.take_ k hk).below (flat_kept _) h hhi) (Nat.le_trans hhi h.size))
        go_wp2
        generalize wr.alloc (.cells #[.int .i64 t.2.2.2.2.1[k].1, .int .i64 t.2.2.2.2.1[k].2.1, .int .i64 t.2.2.2.2.1[k].2.2.1, .int .i64 t.2.2.2.2.1[k].2.2.2.1, .int .i64 t.2.2.2.2.1[k].2.2.2.2.1, .int .i64 t.2.2.2.2.1[k].2.2.2.2.2.1, .int .i64 t.2.2.2.2.1[k].2.2.2.2.2.2] 41) = wq at *
        have hB1 := hB1.drew
        cases e1 : okCl t.2.2.2.2.1[k]
        · have hno := hide (not_okTook hlx (fun ⟨_, h, _⟩ => by rw [e1] at h; cases h))
          refine wp_region_T (fun _ => True) [] [] [] [0, 1, 2, 3, 4, 5, 6, 7, 8, 9, 10, 11, 12, 13] (by kernel_rfl) (by kernel_rfl) (by kernel_rfl) trivial ?_; simp only [pickL, List.getElem?_cons_succ, List.getElem?_cons_zero]
          go_wp2_with (first
            | ((refine no_implicit_lambda% (g24_ ?_)); intro K hK) | (refine no_implicit_lambda% (g1_ ?_)) | ((refine no_implicit_lambda% (g2_ ?_)); intro K hK) | (refine no_implicit_lambda% (g3_ ?_))
            | (go_at_call 39; refine (claimOk_c t.2.2.2.2.1[k] _).mono ?_; rintro e w5 ⟨rfl, hb5⟩; rw [e1])
            | fail)
          go_ret
          exact ⟨by rw [hr.out, hno.out]; rfl, hB1.trans (hb5.mono hB1.size)⟩
        · cases e2 : (t.2.2.2.2.1.take k).any (fun u => (u.2.1 == t.2.2.2.2.1[k].2.1) && (u.1 == t.2.2.2.2.1[k].1))
          · have hyes := hide (goodT_any hlx e1 e2)
            refine wp_region_T (fun _ => True) [] [] [] [0, 1, 2, 3, 4, 5, 6, 7, 8, 9, 10, 11, 12, 13] (by kernel_rfl) (by kernel_rfl) (by kernel_rfl) trivial ?_; simp only [pickL, List.getElem?_cons_succ, List.getElem?_cons_zero]
            go_wp2_with (first
              | ((refine no_implicit_lambda% (g24_ ?_)); intro K hK) | (refine no_implicit_lambda% (g1_ ?_)) | ((refine no_implicit_lambda% (g2_ ?_)); intro K hK) | (refine no_implicit_lambda% (g3_ ?_))
              | (go_at_call 39; refine (claimOk_c t.2.2.2.2.1[k] _).mono ?_; rintro e w5 ⟨rfl, hb5⟩; rw [e1]; have x0 := keepc hb5 x0; have x1 := keepc hb5 x1; have x2 := keepc hb5 x2; have x3 := keepc hb5 x3; have x4 := keepc hb5 x4; have x5 := keepc hb5 x5; have x6 := keepc hb5 x6; have y0 := keepc hb5 y0; have y1 := keepc hb5 y1; have y2 := keepc hb5 y2; have y3 := keepc hb5 y3; have y4 := keepc hb5 y4; have y5 := keepc hb5 y5; have y6 := keepc hb5 y6; have hB5 := hB1.trans (hb5.mono hB1.size))
              | (go_at_call 40; refine (htk.out _ hB5).mono ?_; rintro e w6 ⟨rfl, hb6⟩; rw [e2])
              | fail)
            go_roundw
            case rel => exact ⟨k + 1, by omega, by go_num, hide (allTo_succ hgo.out hyes.out), hr1.drew.trans ((hb5.trans (hb6.mono hb5.size)).mono hr1.size)⟩
            case measure => simp [intOf]; omega
          · have hno := hide (not_okTook hlx (goodT_no hlx e2))
            refine wp_region_T (fun _ => True) [] [] [] [0, 1, 2, 3, 4, 5, 6, 7, 8, 9, 10, 11, 12, 13] (by kernel_rfl) (by kernel_rfl) (by kernel_rfl) trivial ?_; simp only [pickL, List.getElem?_cons_succ, List.getElem?_cons_zero]
            go_wp2_with (first
              | ((refine no_implicit_lambda% (g24_ ?_)); intro K hK) | (refine no_implicit_lambda% (g1_ ?_)) | ((refine no_implicit_lambda% (g2_ ?_)); intro K hK) | (refine no_implicit_lambda% (g3_ ?_))
              | (go_at_call 39; refine (claimOk_c t.2.2.2.2.1[k] _).mono ?_; rintro e w5 ⟨rfl, hb5⟩; rw [e1]; have x0 := keepc hb5 x0; have x1 := keepc hb5 x1; have x2 := keepc hb5 x2; have x3 := keepc hb5 x3; have x4 := keepc hb5 x4; have x5 := keepc hb5 x5; have x6 := keepc hb5 x6; have y0 := keepc hb5 y0; have y1 := keepc hb5 y1; have y2 := keepc hb5 y2; have y3 := keepc hb5 y3; have y4 := keepc hb5 y4; have y5 := keepc hb5 y5; have y6 := keepc hb5 y6; have hB5 := hB1.trans (hb5.mono hB1.size))
              | (go_at_call 40; refine (htk.out _ hB5).mono ?_; rintro e w6 ⟨rfl, hb6⟩; rw [e2])
              | fail)
            go_ret
            exact ⟨by rw [hr.out, hno.out]; rfl, hB5.trans (hb6.mono hB5.size)⟩
      · obtain rfl : k = n := by omega
        have htook := hide (is_okTook hn'.out hgo.out)
        go_wp2_with fail
        refine (contains_repOk B p d lo hi t.2.2.2.2.2.1 (fun m => !okH m) wr (h1.below msg_kept hBr hhi) (Nat.le_trans hhi hBr.size) (fun k hk W A1 B1 n1 c1 p1 d1 hW r1 r2 => repOk1_c t.2.2.2.2.2.1[k] A1 B1 n1 c1 p1 d1 lo hi W r1 r2 (Nat.le_trans hhi (Nat.le_trans hBr.size hW.size)))).mono ?_
        rintro e w7 ⟨rfl, hb7⟩
        go_wp2
        go_ret
        exact ⟨congrArg (fun b => Ending.returned (.bool b)) (by rw [hr.out, htook.out, any_not]; simp), hBr.trans (hb7.mono hBr.size)⟩
end Go.Proofs.YtopmbnnjhoinkaaGreat
