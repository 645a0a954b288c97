/-
  What 'FVd' rests on (texts of this seat put together: NB).
  Conditions: none.
-/
import Derived.Test.YtopmbnnjhoinkaaVV1
import Derived.Laws.StructEq
namespace Go.Proofs.Ytopmbnnjhoinkaa
open Go.RowKit Rg
set_option linter.unusedVariables false
set_option linter.unusedSimpArgs false
set_option maxHeartbeats 1000000
theorem isView_c (n : Int) (w : World) : Calls Try.prog 28 #[.int .i64 n] w fun e w' => e = .returned (.bool (inB n 0 6)) ∧ w = w' := by
  go_enter Try.func28, Try.ntmps28
  go_wp2_with (go_at_call 54; refine (in_c _ _ _ _).mono ?_; rintro e w' ⟨rfl, rfl⟩)
  go_ret
  exact ⟨rfl, rfl⟩
theorem isSeq_c (n : Int) (w : World) : Calls Try.prog 42 #[.int .i64 n] w fun e w' => e = .returned (.bool (inB n 1 5)) ∧ w = w' := by
  go_enter Try.func42, Try.ntmps42
  go_wp2_with (go_at_call 54; refine (in_c _ _ _ _).mono ?_; rintro e w' ⟨rfl, rfl⟩)
  go_ret
  exact ⟨rfl, rfl⟩
theorem okR_eq (a b c x y : Int) : okR (a, b, c, x, y) = (inB a 1 4 && (inB b 1 30 && (if c = 1 ∨ c = 3 then (x == 0 && y == 0) else if c = 2 then inB x (-1) 1 && inB y (-1) 1 else if c = 4 then inB x 1 4 && (y == 0) else if c = 5 then inB x 1 4 && inB y 1 9 else false))) := rfl
set_option maxHeartbeats 1000000 in
theorem ReqOk_c (a b c x y : Int) (w : World) : Calls Try.prog 70 #[.agg #[.int .i64 a, .int .i64 b, .int .i64 c, .int .i64 x, .int .i64 y]] w fun e w' => e = .returned (.bool (okR (a, b, c, x, y))) ∧ Below w.heap.size w w' := by
  rw [okR_eq]
  generalize hz : (if c = 1 ∨ c = 3 then (x == 0 && y == 0) else if c = 2 then inB x (-1) 1 && inB y (-1) 1 else if c = 4 then inB x 1 4 && (y == 0) else if c = 5 then inB x 1 4 && inB y 1 9 else false) = z
  have hz' := hide hz
  clear hz
  go_enter Try.func70, Try.ntmps70
  go_wp2_with (first
    | (go_at_call 54; refine (in_c _ _ _ _).mono ?_; rintro e w' ⟨rfl, rfl⟩)
    | (go_at_call 86; refine (isClient_c _ _).mono ?_; rintro e w' ⟨rfl, rfl⟩))
  all_goals
    go_ret
    refine ⟨congrArg (fun b => Ending.returned (.bool b)) ?_, ((Below.refl _ _).alloc (Nat.le_refl _) _)⟩
    have hz := hz'.out
    rw [← hz]
    clear hz hz'
    try simp only [beq_iff_eq, beq_eq_false_iff_ne, Bool.not_eq_true', Bool.not_eq_false', ne_eq] at *
    simp [*]
set_option maxHeartbeats 1000000 in
theorem l1Ok_c (a b c x y : Int) (w : World) : Calls Try.prog 49 #[.agg #[.int .i64 a, .int .i64 b, .int .i64 c, .int .i64 x, .int .i64 y]] w fun e w' => e = .returned (.bool (okR (a, b, c, x, y))) ∧ Below w.heap.size w w' := by
  rw [okR_eq]
  generalize hz : (if c = 1 ∨ c = 3 then (x == 0 && y == 0) else if c = 2 then inB x (-1) 1 && inB y (-1) 1 else if c = 4 then inB x 1 4 && (y == 0) else if c = 5 then inB x 1 4 && inB y 1 9 else false) = z
  have hz' := hide hz
  clear hz
  go_enter Try.func49, Try.ntmps49
  go_wp2_with (go_at_call 34; refine (l1In_c _ _ _ _).mono ?_; rintro e w' ⟨rfl, rfl⟩)
  all_goals
    go_ret
    refine ⟨congrArg (fun b => Ending.returned (.bool b)) ?_, ((Below.refl _ _).alloc (Nat.le_refl _) _)⟩
    have hz := hz'.out
    rw [← hz]
    clear hz hz'
    try simp only [beq_iff_eq, beq_eq_false_iff_ne, Bool.not_eq_true', Bool.not_eq_false', ne_eq] at *
    simp [*]
def noneR (t : ReqV) : Bool := decide (t = (0, 0, 0, 0, 0))
def okN (t : ReqV) : Bool := noneR t || okR t
theorem noneR_eq (a b c x y : Int) : noneR (a, b, c, x, y) = ((a == 0) && ((b == 0) && ((c == 0) && ((x == 0) && (y == 0))))) := by
  unfold noneR
  rw [Bool.eq_iff_iff]
  simp
theorem l1None_c (a b c x y : Int) (w : World) : Calls Try.prog 48 #[.agg #[.int .i64 a, .int .i64 b, .int .i64 c, .int .i64 x, .int .i64 y]] w fun e w' => e = .returned (.bool (noneR (a, b, c, x, y))) ∧ Below w.heap.size w w' := by
  rw [noneR_eq]
  go_enter Try.func48, Try.ntmps48
  go_wp2
  all_goals
    go_ret
    exact ⟨by simp [*], (Below.refl _ _).alloc (Nat.le_refl _) _⟩
theorem okOrNull_c (a b c x y : Int) (w : World) : Calls Try.prog 43 #[.agg #[.int .i64 a, .int .i64 b, .int .i64 c, .int .i64 x, .int .i64 y]] w fun e w' => e = .returned (.bool (okN (a, b, c, x, y))) ∧ Below w.heap.size w w' := by
  go_enter Try.func43, Try.ntmps43
  go_wp2_with (go_at_call 70; refine (ReqOk_c _ _ _ _ _ _).mono ?_; rintro e w' ⟨rfl, hb1⟩)
  all_goals
    go_ret
    refine ⟨by simp [okN, noneR_eq, *], ?_⟩
    first
      | exact (Below.refl _ _).alloc (Nat.le_refl _) _
      | exact ((Below.refl _ _).alloc (Nat.le_refl _) _).trans (hb1.mono (by simp))
theorem run_eq_req (r s : ReqV) (w : World) : (binOp .eql 25 (.agg #[.int .i64 r.1, .int .i64 r.2.1, .int .i64 r.2.2.1, .int .i64 r.2.2.2.1, .int .i64 r.2.2.2.2]) (.agg #[.int .i64 s.1, .int .i64 s.2.1, .int .i64 s.2.2.1, .int .i64 s.2.2.2.1, .int .i64 s.2.2.2.2])).run Try.prog w = .ok (.bool (decide (r = s))) w := by
  obtain ⟨a, b, c, x, y⟩ := r
  obtain ⟨a', b', c', x', y'⟩ := s
  go_simp
  by_cases h1 : a = a' <;> by_cases h2 : b = b' <;> by_cases h3 : c = c' <;> by_cases h4 : x = x' <;> by_cases h5 : y = y' <;> simp [*]
def okCl (c : ClaimT) : Bool := inB c.1 1 5 && (inB c.2.1 0 6 && okN c.2.2)
theorem claimOk_c (c : ClaimT) (w : World) : Calls Try.prog 18 #[.agg #[.int .i64 c.1, .int .i64 c.2.1, .int .i64 c.2.2.1, .int .i64 c.2.2.2.1, .int .i64 c.2.2.2.2.1, .int .i64 c.2.2.2.2.2.1, .int .i64 c.2.2.2.2.2.2]] w fun e w' => e = .returned (.bool (okCl c)) ∧ Below w.heap.size w w' := by
  cases h1 : inB c.1 1 5 <;> cases h2 : inB c.2.1 0 6
  all_goals
    have h1' := hide h1
    have h2' := hide h2
    go_enter Try.func18, Try.ntmps18
    go_wp2_with (first
      | (go_at_call 42; refine (isSeq_c _ _).mono ?_; rintro e w' ⟨rfl, rfl⟩)
      | (go_at_call 28; refine (isView_c _ _).mono ?_; rintro e w' ⟨rfl, rfl⟩)
      | (go_at_call 43; refine (okOrNull_c _ _ _ _ _ _).mono ?_; rintro e w' ⟨rfl, hb1⟩))
    go_ret
    refine ⟨by simp [okCl, h1'.out, h2'.out], ?_⟩
    first
      | exact (Below.refl _ _).alloc (Nat.le_refl _) _
      | exact ((Below.refl _ _).alloc (Nat.le_refl _) _).trans (hb1.mono (by simp))
theorem l3ClaimOk_c (c : ClaimT) (w : World) : Calls Try.prog 22 #[.agg #[.int .i64 c.1, .int .i64 c.2.1, .int .i64 c.2.2.1, .int .i64 c.2.2.2.1, .int .i64 c.2.2.2.2.1, .int .i64 c.2.2.2.2.2.1, .int .i64 c.2.2.2.2.2.2]] w fun e w' => e = .returned (.bool (okCl c)) ∧ Below w.heap.size w w' := by
  have hA := (Below.refl w.heap.size w).alloc (Nat.le_refl _) (.cells #[.int .i64 c.1, .int .i64 c.2.1, .int .i64 c.2.2.1, .int .i64 c.2.2.2.1, .int .i64 c.2.2.2.2.1, .int .i64 c.2.2.2.2.2.1, .int .i64 c.2.2.2.2.2.2] 27)
  cases h1 : inB c.1 1 5 <;> cases h2 : inB c.2.1 0 6 <;> cases h3 : noneR c.2.2
  all_goals
    have h1' := hide h1
    have h2' := hide h2
    have h3' := hide h3
    go_enter Try.func22, Try.ntmps22
    go_wp2_with (go_at_call 34; refine (l1In_c _ _ _ _).mono ?_; rintro e w' ⟨rfl, rfl⟩)
    try
      refine (l1None_c c.2.2.1 c.2.2.2.1 c.2.2.2.2.1 c.2.2.2.2.2.1 c.2.2.2.2.2.2 _).mono ?_
      rintro e w1 ⟨rfl, hb1⟩
      have hA := hA.trans (hb1.mono hA.size)
      have y2 : w1.cell? ⟨w.heap.size, 2, none⟩ = some (.int .i64 c.2.2.1) := keepc hb1 (by simp)
      have y3 : w1.cell? ⟨w.heap.size, 3, none⟩ = some (.int .i64 c.2.2.2.1) := keepc hb1 (by simp)
      have y4 : w1.cell? ⟨w.heap.size, 4, none⟩ = some (.int .i64 c.2.2.2.2.1) := keepc hb1 (by simp)
      have y5 : w1.cell? ⟨w.heap.size, 5, none⟩ = some (.int .i64 c.2.2.2.2.2.1) := keepc hb1 (by simp)
      have y6 : w1.cell? ⟨w.heap.size, 6, none⟩ = some (.int .i64 c.2.2.2.2.2.2) := keepc hb1 (by simp)
      have e3 : noneR (c.2.2.1, c.2.2.2.1, c.2.2.2.2.1, c.2.2.2.2.2.1, c.2.2.2.2.2.2) = noneR c.2.2 := rfl
      rw [e3, h3]
      go_wp2_with fail
      try
        refine (l1Ok_c c.2.2.1 c.2.2.2.1 c.2.2.2.2.1 c.2.2.2.2.2.1 c.2.2.2.2.2.2 _).mono ?_
        rintro e w2 ⟨rfl, hb2⟩
        have hA := hA.trans (hb2.mono hA.size)
        go_wp2
    go_ret
    exact ⟨by simp [okCl, okN, h1'.out, h2'.out, h3'.out], hA⟩
def leadI (v : Int) : Int := if inB v 0 6 then v % 4 else -1
theorem Leader_c (v : Int) (w : World) : Calls Try.prog 45 #[.int .i64 v] w fun e w' => e = .returned (.int .i64 (leadI v)) ∧ w = w' := by
  cases h1 : inB v 0 6
  · have h1' := hide h1
    go_enter Try.func45, Try.ntmps45
    go_wp2_with (go_at_call 28; refine (isView_c _ _).mono ?_; rintro e w' ⟨rfl, rfl⟩)
    go_ret
    exact ⟨by simp [leadI, h1'.out], rfl⟩
  · have h1' := hide h1
    have h2 : 0 ≤ v ∧ v ≤ 6 := by unfold inB at h1; simpa using h1
    obtain ⟨h3, h4⟩ := h2
    go_enter Try.func45, Try.ntmps45
    go_wp2_with (go_at_call 28; refine (isView_c _ _).mono ?_; rintro e w' ⟨rfl, rfl⟩)
    go_ret
    exact ⟨by simp [leadI, h1'.out], rfl⟩
theorem l3Leader_c (v : Int) (w : World) (h0 : 0 ≤ v) (h1 : v ≤ 1000000) : Calls Try.prog 71 #[.int .i64 v] w fun e w' => e = .returned (.int .i64 (v % 4)) ∧ w = w' := by
  go_enter Try.func71, Try.ntmps71
  go_wp2
  go_ret
  exact ⟨rfl, rfl⟩
end Go.Proofs.Ytopmbnnjhoinkaa
