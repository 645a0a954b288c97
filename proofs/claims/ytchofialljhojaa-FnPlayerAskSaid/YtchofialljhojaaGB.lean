/-
  Players: whether an answer is ok, whether an ask is, whether an answer fits.
-/
import Derived.Test.YtchofialljhojaaGR
namespace Go.Proofs.Ytchofialljhojaa
open Go.RowKit Rg
set_option linter.unusedVariables false
set_option linter.unusedSimpArgs false

def okRp (t : ReplyT) : Bool := inB t.1 0 3 && (inB t.2.1 1 30 && (inB t.2.2.1 0 8 && inB t.2.2.2 0 4294967295))
theorem replyOk_c (t : ReplyT) (w : World) : Calls Try.prog 84 #[.agg #[.int .i64 t.1, .int .i64 t.2.1, .int .i64 t.2.2.1, .int .i64 t.2.2.2]] w fun e w' => e = .returned (.bool (okRp t)) ∧ Below w.heap.size w w' := by
  cases h1 : inB t.1 0 3 <;> cases h2 : inB t.2.1 1 30 <;> cases h3 : inB t.2.2.1 0 8
  all_goals
    have h1' := h1
    have h2' := h2
    have h3' := h3
    go_enter Try.func84, Try.ntmps84
    go_wp2_with (first
      | (go_at_call 88; refine (in_c _ _ _ _).mono ?_; rintro e w' ⟨rfl, rfl⟩)
      | (go_at_call 102; refine (isKeeper_c _ _).mono ?_; rintro e w' ⟨rfl, rfl⟩))
    go_ret
    exact ⟨by simp [okRp, h1', h2', h3'], ((Below.refl _ _).alloc (Nat.le_refl _) _)⟩
theorem l11ReplyOk_c (t : ReplyT) (w : World) : Calls Try.prog 64 #[.agg #[.int .i64 t.1, .int .i64 t.2.1, .int .i64 t.2.2.1, .int .i64 t.2.2.2]] w fun e w' => e = .returned (.bool (okRp t)) ∧ Below w.heap.size w w' := by
  cases h1 : inB t.1 0 3 <;> cases h2 : inB t.2.1 1 30 <;> cases h3 : inB t.2.2.1 0 8
  all_goals
    have h1' := h1
    have h2' := h2
    have h3' := h3
    go_enter Try.func64, Try.ntmps64
    go_wp2_with (go_at_call 93; refine (l1In_c _ _ _ _).mono ?_; rintro e w' ⟨rfl, rfl⟩)
    go_ret
    exact ⟨by simp [okRp, h1', h2', h3'], ((Below.refl _ _).alloc (Nat.le_refl _) _)⟩

theorem okR_eq (a b c x y : Int) : okR (a, b, c, x, y) = (inB a 1 4 && (inB b 1 30 && (if c = 1 ∨ c = 3 then (x == 0 && y == 0) else if c = 2 then inB x (-1) 1 && inB y (-1) 1 else if c = 4 then inB x 1 4 && (y == 0) else if c = 5 then inB x 1 4 && inB y 1 9 else false))) := rfl
set_option maxHeartbeats 1000000 in
theorem ReqOk_c (a b c x y : Int) (w : World) : Calls Try.prog 54 #[.agg #[.int .i64 a, .int .i64 b, .int .i64 c, .int .i64 x, .int .i64 y]] w fun e w' => e = .returned (.bool (okR (a, b, c, x, y))) ∧ Below w.heap.size w w' := by
  rw [okR_eq]
  generalize hz : (if c = 1 ∨ c = 3 then (x == 0 && y == 0) else if c = 2 then inB x (-1) 1 && inB y (-1) 1 else if c = 4 then inB x 1 4 && (y == 0) else if c = 5 then inB x 1 4 && inB y 1 9 else false) = z
  have hz' := hide hz
  clear hz
  go_enter Try.func54, Try.ntmps54
  go_wp2_with (first
    | (go_at_call 88; refine (in_c _ _ _ _).mono ?_; rintro e w' ⟨rfl, rfl⟩)
    | (go_at_call 87; refine (isClient_c _ _).mono ?_; rintro e w' ⟨rfl, rfl⟩))
  all_goals
    go_ret
    refine ⟨congrArg (fun b => Ending.returned (.bool b)) ?_, ((Below.refl _ _).alloc (Nat.le_refl _) _)⟩
    have hz := hz'.out
    rw [← hz]
    clear hz hz'
    try simp only [beq_iff_eq, beq_eq_false_iff_ne, Bool.not_eq_true', Bool.not_eq_false', ne_eq] at *
    simp [*]
set_option maxHeartbeats 1000000 in
theorem l1Ok_c (a b c x y : Int) (w : World) : Calls Try.prog 67 #[.agg #[.int .i64 a, .int .i64 b, .int .i64 c, .int .i64 x, .int .i64 y]] w fun e w' => e = .returned (.bool (okR (a, b, c, x, y))) ∧ Below w.heap.size w w' := by
  rw [okR_eq]
  generalize hz : (if c = 1 ∨ c = 3 then (x == 0 && y == 0) else if c = 2 then inB x (-1) 1 && inB y (-1) 1 else if c = 4 then inB x 1 4 && (y == 0) else if c = 5 then inB x 1 4 && inB y 1 9 else false) = z
  have hz' := hide hz
  clear hz
  go_enter Try.func67, Try.ntmps67
  go_wp2_with (go_at_call 93; refine (l1In_c _ _ _ _).mono ?_; rintro e w' ⟨rfl, rfl⟩)
  all_goals
    go_ret
    refine ⟨congrArg (fun b => Ending.returned (.bool b)) ?_, ((Below.refl _ _).alloc (Nat.le_refl _) _)⟩
    have hz := hz'.out
    rw [← hz]
    clear hz hz'
    try simp only [beq_iff_eq, beq_eq_false_iff_ne, Bool.not_eq_true', Bool.not_eq_false', ne_eq] at *
    simp [*]

theorem sameFrom_c (x : ReplyT) (f : Int) (b : Nat) (w : World) (hf : w.cell? ⟨b, 0, none⟩ = some (.int .i64 f)) (hbw : b < w.heap.size) : Calls Try.prog 86 #[.agg #[.int .i64 x.1, .int .i64 x.2.1, .int .i64 x.2.2.1, .int .i64 x.2.2.2], .pointer (some ⟨b, 0, none⟩)] w fun e w' => e = .returned (.bool (x.1 == f)) ∧ Below w.heap.size w w' := by
  have hne : b ≠ w.heap.size := by omega
  have hf2 : (w.alloc (.cells #[.int .i64 x.1, .int .i64 x.2.1, .int .i64 x.2.2.1, .int .i64 x.2.2.2] 37)).cell? ⟨b, 0, none⟩ = some (.int .i64 f) := keepc ((Below.refl _ _).alloc (Nat.le_refl _) _) hf
  go_enter Try.func86, Try.ntmps86
  go_wp2
  go_ret
  exact ⟨rfl, ((Below.refl _ _).alloc (Nat.le_refl _) _)⟩
/-- Somebody answered already. -/
def hasFrom (f : Int) (xs : List ReplyT) : Bool := xs.any fun x => x.1 == f
theorem indexFrom_c (A : Option Addr) (n c lo hi : Nat) (xs : List ReplyT) (f : Int) (b : Nat) (w : World) (hn : n = xs.length) (hb : n ≤ 1048576) (hs : Sl encReply 4 w lo hi A xs) (hhi : hi ≤ w.heap.size) (hf : w.cell? ⟨b, 0, none⟩ = some (.int .i64 f)) (hbw : b < w.heap.size) :
    Calls Try.prog 103 #[.slice A n c, .func (.func 86) #[] #[.pointer (some ⟨b, 0, none⟩)]] w fun e w' => ∃ i : Int, e = .returned (.int .i64 i) ∧ (i = -1 ∧ hasFrom f xs = false ∨ 0 ≤ i ∧ hasFrom f xs = true) ∧ Below w.heap.size w w' := by
  have hn' := hide hn
  clear hn
  go_enter Try.func103, Try.ntmps103
  go_wp2
  go_loopw [8, 5] (fun i _ wr => ∃ k : Nat, k ≤ n ∧ i = .int .i64 k ∧ Hid (∀ j (h : j < xs.length), j < k → ¬ xs[j].1 = f) ∧ Below w.heap.size w wr) (fun i _ _ => n - (intOf i).toNat)
  case atStart => exact ⟨0, Nat.zero_le _, rfl, fun j h h' => absurd h' (by omega), Below.refl _ _⟩
  case round =>
    obtain ⟨k, hk, rfl, hno, hbr⟩ := hrel
    by_cases hlt : k < n
    · have hlx : k < xs.length := by have := hn'.out; omega
      obtain ⟨b', off, rfl, hlo, hbh⟩ := hs.addr hlx
      obtain ⟨a1, a2, a3, a4⟩ := (hs.below hbr hhi).getReply hlx
      have hfr := keepc hbr hf
      have hbr' : b < wr.heap.size := by have := hbr.size; omega
      go_wp2_with fail
      refine (sameFrom_c xs[k] f b wr hfr hbr').mono ?_
      rintro e w1 ⟨rfl, hb1⟩
      cases he : (xs[k].1 == f)
      · have he' := hide he
        go_wp2
        go_roundw
        case rel => exact ⟨k + 1, by omega, by go_num, fun j hj hjk h => by
          by_cases h2 : j < k
          · exact hno.out j hj h2 h
          · obtain rfl : j = k := by omega
            have := he'.out
            simp [h] at this, hbr.trans (hb1.mono hbr.size)⟩
        case measure => simp [intOf]; omega
      · have he' : Hid (hasFrom f xs = true) := hide (List.any_eq_true.2 ⟨xs[k], List.getElem_mem hlx, he⟩)
        go_wp2
        go_ret
        exact ⟨k, rfl, .inr ⟨by omega, he'.out⟩, hbr.trans (hb1.mono hbr.size)⟩
    · obtain rfl : k = n := by omega
      go_wp2
      go_ret
      refine ⟨-1, rfl, .inl ⟨rfl, ?_⟩, hbr⟩
      simp only [hasFrom, List.any_eq_false]
      intro x hx
      obtain ⟨j, hj, rfl⟩ := List.mem_iff_getElem.1 hx
      simpa using hno.out j hj (by have := hn'.out; omega)
theorem containsFrom_c (A : Option Addr) (n c lo hi : Nat) (xs : List ReplyT) (f : Int) (b : Nat) (w : World) (hn : n = xs.length) (hb : n ≤ 1048576) (hs : Sl encReply 4 w lo hi A xs) (hhi : hi ≤ w.heap.size) (hf : w.cell? ⟨b, 0, none⟩ = some (.int .i64 f)) (hbw : b < w.heap.size) :
    Calls Try.prog 85 #[.slice A n c, .func (.func 86) #[] #[.pointer (some ⟨b, 0, none⟩)]] w fun e w' => e = .returned (.bool (hasFrom f xs)) ∧ Below w.heap.size w w' := by
  have hn' := hide hn
  clear hn
  go_enter Try.func85, Try.ntmps85
  go_wp2_with fail
  refine (indexFrom_c A n c lo hi xs f b w hn'.out hb hs hhi hf hbw).mono ?_
  rintro e w1 ⟨i, rfl, hi, hb1⟩
  rcases hi with ⟨rfl, h⟩ | ⟨h1, h⟩
  · have h' := hide h
    go_wp2
    go_ret
    exact ⟨by rw [h'.out]; rfl, hb1⟩
  · have h' := hide h
    have d1 : decide (0 ≤ i) = true := by simpa using h1
    go_wp2
    go_ret
    exact ⟨by rw [h'.out]; simp [h1], hb1⟩
/-- Whether an answer fits. -/
def fitsL (r : ReqV) (xs : List ReplyT) (t : ReplyT) : Bool := okRp t && (t.2.1 == r.2.1 && !hasFrom t.1 xs)
theorem fits_c (r : ReqV) (A : Option Addr) (n c lo hi : Nat) (xs : List ReplyT) (t : ReplyT) (w : World) (hn : n = xs.length) (hb : n ≤ 1048576) (hs : Sl encReply 4 w lo hi A xs) (hhi : hi ≤ w.heap.size) :
    Calls Try.prog 53 #[.agg #[.int .i64 r.1, .int .i64 r.2.1, .int .i64 r.2.2.1, .int .i64 r.2.2.2.1, .int .i64 r.2.2.2.2, .slice A n c], .agg #[.int .i64 t.1, .int .i64 t.2.1, .int .i64 t.2.2.1, .int .i64 t.2.2.2]] w fun e w' => e = .returned (.bool (fitsL r xs t)) ∧ Below w.heap.size w w' := by
  have hn' := hide hn
  clear hn
  have hb0 : Below w.heap.size w ((w.alloc (.cells #[.int .i64 r.1, .int .i64 r.2.1, .int .i64 r.2.2.1, .int .i64 r.2.2.2.1, .int .i64 r.2.2.2.2, .slice A n c] 32)).alloc (.cells #[.int .i64 t.1, .int .i64 t.2.1, .int .i64 t.2.2.1, .int .i64 t.2.2.2] 37)) := ((Below.refl _ _).alloc (Nat.le_refl _) _).alloc (by simp) _
  cases e1 : okRp t <;> cases e2 : (t.2.1 == r.2.1)
  all_goals
    have e1' := hide e1
    have e2' := hide e2
    go_enter Try.func53, Try.ntmps53
    go_wp2_with fail
    refine (replyOk_c t _).mono ?_
    rintro e w1 ⟨rfl, hb1⟩
    have hB1 := hb0.trans (hb1.mono hb0.size)
    have x1 : w1.cell? ⟨w.heap.size, 1, none⟩ = some (.int .i64 r.2.1) := keepc hb1 (by simp)
    have x5 : w1.cell? ⟨w.heap.size, 5, none⟩ = some (.slice A n c) := keepc hb1 (by simp)
    have y0 : w1.cell? ⟨w.heap.size + 1, 0, none⟩ = some (.int .i64 t.1) := keepc hb1 (by simp)
    have y1 : w1.cell? ⟨w.heap.size + 1, 1, none⟩ = some (.int .i64 t.2.1) := keepc hb1 (by simp)
    have hl : w.heap.size + 1 < w1.heap.size := lt_of_cell y0
    rw [e1]
    go_wp2_with fail
    try (refine (containsFrom_c A n c lo hi xs t.1 (w.heap.size + 1) w1 hn'.out hb (hs.below hB1 hhi) (Nat.le_trans hhi hB1.size) y0 hl).mono ?_; rintro e w2 ⟨rfl, hb2⟩; have hB1 := hB1.trans (hb2.mono hB1.size); go_wp2)
    go_ret
    exact ⟨by simp [fitsL, e1'.out, e2'.out], hB1⟩
end Go.Proofs.Ytchofialljhojaa
