/-
  Letters: leaf functions (asks, claims, views, leaders).
  Conditions: none.
-/
import Derived.Test.YtajmfonepnkofaaDoorNA
import Derived.Laws.StructEq
namespace Go.Proofs.YtajmfonepnkofaaDoor
open Go.RowKit Rg
set_option linter.unusedVariables false
set_option linter.unusedSimpArgs false

theorem okR_eq (a b c x y : Int) : okR (a, b, c, x, y) = (inB a 1 4 && (inB b 1 30 && (if c = 1 ∨ c = 3 then (x == 0 && y == 0) else if c = 2 then inB x (-1) 1 && inB y (-1) 1 else if c = 4 then inB x 1 4 && (y == 0) else if c = 5 then inB x 1 4 && inB y 1 9 else false))) := rfl
set_option maxHeartbeats 1000000 in
theorem ReqOk_c (a b c x y : Int) (w : World) : Calls Tryd.prog 31 #[.agg #[.int .i64 a, .int .i64 b, .int .i64 c, .int .i64 x, .int .i64 y]] w fun e w' => e = .returned (.bool (okR (a, b, c, x, y))) ∧ Below w.heap.size w w' := by
  rw [okR_eq]
  generalize hz : (if c = 1 ∨ c = 3 then (x == 0 && y == 0) else if c = 2 then inB x (-1) 1 && inB y (-1) 1 else if c = 4 then inB x 1 4 && (y == 0) else if c = 5 then inB x 1 4 && inB y 1 9 else false) = z
  have hz' := hide hz
  clear hz
  go_enter Tryd.func31, Tryd.ntmps31
  go_wp2_with (first
    | (go_at_call 54; refine (in_c _ _ _ _).mono ?_; rintro e w' ⟨rfl, rfl⟩)
    | (go_at_call 58; refine (isClient_c _ _).mono ?_; rintro e w' ⟨rfl, rfl⟩))
  all_goals
    go_ret
    refine ⟨congrArg (fun b => Ending.returned (.bool b)) ?_, ((Below.refl _ _).alloc (Nat.le_refl _) _)⟩
    have hz := hz'.out
    rw [← hz]
    clear hz hz'
    try simp only [beq_iff_eq, beq_eq_false_iff_ne, Bool.not_eq_true', Bool.not_eq_false', ne_eq] at *
    simp [*]
set_option maxHeartbeats 1000000 in
theorem l1Ok_c (a b c x y : Int) (w : World) : Calls Tryd.prog 22 #[.agg #[.int .i64 a, .int .i64 b, .int .i64 c, .int .i64 x, .int .i64 y]] w fun e w' => e = .returned (.bool (okR (a, b, c, x, y))) ∧ Below w.heap.size w w' := by
  rw [okR_eq]
  generalize hz : (if c = 1 ∨ c = 3 then (x == 0 && y == 0) else if c = 2 then inB x (-1) 1 && inB y (-1) 1 else if c = 4 then inB x 1 4 && (y == 0) else if c = 5 then inB x 1 4 && inB y 1 9 else false) = z
  have hz' := hide hz
  clear hz
  go_enter Tryd.func22, Tryd.ntmps22
  go_wp2_with (go_at_call 20; refine (l1In_c _ _ _ _).mono ?_; rintro e w' ⟨rfl, rfl⟩)
  all_goals
    go_ret
    refine ⟨congrArg (fun b => Ending.returned (.bool b)) ?_, ((Below.refl _ _).alloc (Nat.le_refl _) _)⟩
    have hz := hz'.out
    rw [← hz]
    clear hz hz'
    try simp only [beq_iff_eq, beq_eq_false_iff_ne, Bool.not_eq_true', Bool.not_eq_false', ne_eq] at *
    simp [*]

/-- No ask. -/
def noneR (t : ReqV) : Bool := decide (t = (0, 0, 0, 0, 0))
/-- Whether an ask is ok, or none. -/
def okN (t : ReqV) : Bool := noneR t || okR t
theorem noneR_eq (a b c x y : Int) : noneR (a, b, c, x, y) = ((a == 0) && ((b == 0) && ((c == 0) && ((x == 0) && (y == 0))))) := by
  unfold noneR
  rw [Bool.eq_iff_iff]
  simp
theorem l1None_c (a b c x y : Int) (w : World) : Calls Tryd.prog 48 #[.agg #[.int .i64 a, .int .i64 b, .int .i64 c, .int .i64 x, .int .i64 y]] w fun e w' => e = .returned (.bool (noneR (a, b, c, x, y))) ∧ Below w.heap.size w w' := by
  rw [noneR_eq]
  go_enter Tryd.func48, Tryd.ntmps48
  go_wp2
  all_goals
    go_ret
    exact ⟨by simp [*], (Below.refl _ _).alloc (Nat.le_refl _) _⟩
theorem okOrNull_c (a b c x y : Int) (w : World) : Calls Tryd.prog 42 #[.agg #[.int .i64 a, .int .i64 b, .int .i64 c, .int .i64 x, .int .i64 y]] w fun e w' => e = .returned (.bool (okN (a, b, c, x, y))) ∧ Below w.heap.size w w' := by
  go_enter Tryd.func42, Tryd.ntmps42
  go_wp2_with (go_at_call 31; refine (ReqOk_c _ _ _ _ _ _).mono ?_; rintro e w' ⟨rfl, hb1⟩)
  all_goals
    go_ret
    refine ⟨by simp [okN, noneR_eq, *], ?_⟩
    first
      | exact (Below.refl _ _).alloc (Nat.le_refl _) _
      | exact ((Below.refl _ _).alloc (Nat.le_refl _) _).trans (hb1.mono (by simp))

/-- Two asks, compared. -/
theorem run_eq_req (r s : ReqV) (w : World) : (binOp .eql 37 (.agg #[.int .i64 r.1, .int .i64 r.2.1, .int .i64 r.2.2.1, .int .i64 r.2.2.2.1, .int .i64 r.2.2.2.2]) (.agg #[.int .i64 s.1, .int .i64 s.2.1, .int .i64 s.2.2.1, .int .i64 s.2.2.2.1, .int .i64 s.2.2.2.2])).run Tryd.prog w = .ok (.bool (decide (r = s))) w := by
  obtain ⟨a, b, c, x, y⟩ := r
  obtain ⟨a', b', c', x', y'⟩ := s
  go_simp
  by_cases h1 : a = a' <;> by_cases h2 : b = b' <;> by_cases h3 : c = c' <;> by_cases h4 : x = x' <;> by_cases h5 : y = y' <;> simp [*]
/-- Whether a claim is ok. -/
def okCl (c : ClaimT) : Bool := inB c.1 1 5 && (inB c.2.1 0 6 && okN c.2.2)
/-- Who leads. -/
def leadI (v : Int) : Int := if inB v 0 6 then v % 4 else -1
end Go.Proofs.YtajmfonepnkofaaDoor
