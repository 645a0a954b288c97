/-
  Leaf functions of the queue chapter: what each returns.
-/
import Derived.Test.YtaklfalkpkifmaaRows
import Derived.Test.YtaklfalkpkifmaaReg
import Derived.Test.YtaklfalkpkifmaaBase
import Derived.OpenShut
import Derived.BigQuiet
import Derived.Deep.QuietTactic
namespace Go.Proofs.Ytaklfalkpkifmaa
open Go.RowKit Rg
set_option linter.unusedVariables false

abbrev Tm := Int × Int × Int
def encT (t : Tm) : List Value := [.int .i64 t.1, .int .i64 t.2.1, .int .i64 t.2.2]
theorem encT_len (t : Tm) : (encT t).length = 3 := rfl
theorem encT_one (t : Tm) : ∀ u ∈ encT t, u.oneCell' = true := by
  intro u hu; simp [encT] at hu; rcases hu with rfl | rfl | rfl <;> rfl
theorem Sl.tm {w : World} {lo hi b off k : Nat} {xs : List Tm} (h : Sl encT 3 w lo hi (some ⟨b, off, none⟩) xs) (hk : k < xs.length) :
    w.cell? ⟨b, off + k * 3, none⟩ = some (.int .i64 xs[k].1) ∧ w.cell? ⟨b, off + k * 3 + 1, none⟩ = some (.int .i64 xs[k].2.1) ∧ w.cell? ⟨b, off + k * 3 + 2, none⟩ = some (.int .i64 xs[k].2.2) :=
  ⟨h.at_ hk 0 _ rfl, h.at_ hk 1 _ rfl, h.at_ hk 2 _ rfl⟩

def inB (n lo hi : Int) : Bool := decide (lo ≤ n ∧ n ≤ hi)
theorem in_c (n lo hi : Int) (w : World) : Calls Try.prog 51 #[.int .i64 n, .int .i64 lo, .int .i64 hi] w fun e w' => e = .returned (.bool (inB n lo hi)) ∧ w = w' := by
  by_cases h1 : lo ≤ n
  · by_cases h2 : n ≤ hi
    · go_enter Try.func51, Try.ntmps51
      go_wp2
      go_ret
      exact ⟨by simp [inB, h1, h2], rfl⟩
    · go_enter Try.func51, Try.ntmps51
      go_wp2
      go_ret
      exact ⟨by simp [inB, h2], rfl⟩
  · go_enter Try.func51, Try.ntmps51
    go_wp2
    go_ret
    exact ⟨by simp [inB]; omega, rfl⟩
theorem l1In_c (n lo hi : Int) (w : World) : Calls Try.prog 56 #[.int .i64 n, .int .i64 lo, .int .i64 hi] w fun e w' => e = .returned (.bool (inB n lo hi)) ∧ w = w' := by
  by_cases h1 : lo ≤ n
  · by_cases h2 : n ≤ hi
    · go_enter Try.func56, Try.ntmps56
      go_wp2
      go_ret
      exact ⟨by simp [inB, h1, h2], rfl⟩
    · go_enter Try.func56, Try.ntmps56
      go_wp2
      go_ret
      exact ⟨by simp [inB, h2], rfl⟩
  · go_enter Try.func56, Try.ntmps56
    go_wp2
    go_ret
    exact ⟨by simp [inB]; omega, rfl⟩

def okT (t : Tm) : Bool := inB t.1 0 999 && (inB t.2.1 0 4 && inB t.2.2 0 30)
theorem timedOk_c (a b c : Int) (w : World) : Calls Try.prog 44 #[.agg #[.int .i64 a, .int .i64 b, .int .i64 c]] w fun e w' => e = .returned (.bool (okT (a, b, c))) ∧ Below w.heap.size w w' := by
  cases h1 : inB a 0 999 <;> cases h2 : inB b 0 4
  all_goals
    have h1' := h1
    have h2' := h2
    go_enter Try.func44, Try.ntmps44
    go_wp2_with (go_at_call 56; refine (l1In_c _ _ _ _).mono ?_; rintro e w' ⟨rfl, rfl⟩)
    go_ret
    exact ⟨by simp [okT, h1', h2'], ((Below.refl _ _).alloc (Nat.le_refl _) _)⟩
theorem ok_c (a b c : Int) (w : World) : Calls Try.prog 36 #[.agg #[.int .i64 a, .int .i64 b, .int .i64 c]] w fun e w' => e = .returned (.bool (okT (a, b, c))) ∧ Below w.heap.size w w' := by
  cases h1 : inB a 0 999 <;> cases h2 : inB b 0 4
  all_goals
    have h1' := h1
    have h2' := h2
    go_enter Try.func36, Try.ntmps36
    go_wp2_with (go_at_call 51; refine (in_c _ _ _ _).mono ?_; rintro e w' ⟨rfl, rfl⟩)
    go_ret
    exact ⟨by simp [okT, h1', h2'], ((Below.refl _ _).alloc (Nat.le_refl _) _)⟩

def ltT (x y : Tm) : Bool := decide (x.1 < y.1 ∨ x.1 = y.1 ∧ (x.2.1 < y.2.1 ∨ x.2.1 = y.2.1 ∧ x.2.2 < y.2.2))
theorem less_c (a b c x y z : Int) (w : World) : Calls Try.prog 50 #[.agg #[.int .i64 a, .int .i64 b, .int .i64 c], .agg #[.int .i64 x, .int .i64 y, .int .i64 z]] w fun e w' => e = .returned (.bool (ltT (a, b, c) (x, y, z))) ∧ Below w.heap.size w w' := by
  go_enter Try.func50, Try.ntmps50
  go_wp2
  all_goals
    go_ret
    simp only [bne_iff_ne, bne_eq_false_iff_eq, ne_eq] at *
    refine ⟨congrArg (fun b => Ending.returned (.bool b)) ?_, (((Below.refl _ _).alloc (Nat.le_refl _) _).alloc (by simp) _)⟩
    simp only [ltT]
    simp [*]
    try omega
theorem eqTimed_c (a b c x y z : Int) (w : World) : Calls Try.prog 26 #[.agg #[.int .i64 a, .int .i64 b, .int .i64 c], .agg #[.int .i64 x, .int .i64 y, .int .i64 z]] w fun e w' => e = .returned (.bool (decide ((a, b, c) = (x, y, z)))) ∧ Below w.heap.size w w' := by
  go_enter Try.func26, Try.ntmps26
  go_wp2
  all_goals
    go_ret
    simp only [bne_iff_ne, bne_eq_false_iff_eq, ne_eq] at *
    refine ⟨congrArg (fun b => Ending.returned (.bool b)) ?_, (((Below.refl _ _).alloc (Nat.le_refl _) _).alloc (by simp) _)⟩
    simp [*]
theorem toTimed_c (a b c : Int) (w : World) : Calls Try.prog 21 #[.agg #[.int .i64 a, .int .i64 b, .int .i64 c]] w fun e w' => e = .returned (.agg #[.int .i64 a, .int .i64 b, .int .i64 c]) ∧ Below w.heap.size w w' := by
  go_enter Try.func21, Try.ntmps21
  go_wp2
  exact bodyPost_ret (v := .agg #[.int .i64 a, .int .i64 b, .int .i64 c]) (by simp [results, Try.results21, go_sem]) rfl ⟨rfl, ((((Below.refl _ _).alloc (Nat.le_refl _) _).alloc (by simp) _).alloc (by simp; omega) _)⟩
theorem isNaN_c (a : Int) (w : World) : Calls Try.prog 57 #[.int .i64 a] w fun e w' => e = .returned (.bool false) ∧ w = w' := by
  go_enter Try.func57, Try.ntmps57
  go_wp2
  go_ret
  exact ⟨rfl, rfl⟩
def cmp3 (x y : Int) : Int := if x < y then -1 else if y < x then 1 else 0
theorem compare_c (x y : Int) (w : World) : Calls Try.prog 54 #[.int .i64 x, .int .i64 y] w fun e w' => e = .returned (.int .i64 (cmp3 x y)) ∧ w = w' := by
  go_enter Try.func54, Try.ntmps54
  go_wp2_with (go_at_call 57; refine (isNaN_c _ _).mono ?_; rintro e w' ⟨rfl, rfl⟩)
  all_goals
    go_ret
    refine ⟨congrArg (fun b => Ending.returned (.int .i64 b)) ?_, rfl⟩
    simp only [cmp3]
  · rw [if_pos (by assumption)]
  · rw [if_neg (by omega), if_pos (by assumption)]
  · rw [if_neg (by omega), if_neg (by omega)]
def or3 (a b c : Int) : Int := if a ≠ 0 then a else if b ≠ 0 then b else c
theorem or_c (a b c : Int) (w : World) (g off cap : Nat) (h0 : w.cell? ⟨g, off, none⟩ = some (.int .i64 a)) (h1 : w.cell? ⟨g, off + 1, none⟩ = some (.int .i64 b)) (h2 : w.cell? ⟨g, off + 2, none⟩ = some (.int .i64 c)) :
    Calls Try.prog 53 #[.slice (some ⟨g, off, none⟩) 3 cap] w fun e w' => e = .returned (.int .i64 (or3 a b c)) ∧ w = w' := by
  go_enter Try.func53, Try.ntmps53
  go_wp2
  refine wp_loop_rounds 4 ?_
  rw [rounds_succ]
  go_wp2
  rotate_left
  rw [rounds_succ]
  go_wp2
  rotate_left
  rw [rounds_succ]
  go_wp2
  rotate_left
  rw [rounds_succ]
  go_wp2
  all_goals
    go_ret
    simp only [bne_iff_ne, bne_eq_false_iff_eq, ne_eq] at *
    simp [or3, *]
theorem or_cmp (a b c x y z : Int) : decide (or3 (cmp3 a x) (cmp3 b y) (cmp3 c z) < 0) = ltT (a, b, c) (x, y, z) := by
  unfold or3 cmp3 ltT
  dsimp only
  rw [decide_eq_decide]
  constructor
  · intro h; split at h <;> split at h <;> (try split at h) <;> (try split at h) <;> (try split at h) <;> (try split at h) <;> (try split at h) <;> omega
  · intro h; split <;> (try split) <;> (try split) <;> (try split) <;> (try split) <;> (try split) <;> omega
theorem before_c (a b c x y z : Int) (w : World) : Calls Try.prog 38 #[.agg #[.int .i64 a, .int .i64 b, .int .i64 c], .agg #[.int .i64 x, .int .i64 y, .int .i64 z]] w fun e w' => e = .returned (.bool (ltT (a, b, c) (x, y, z))) ∧ Below w.heap.size w w' := by
  go_enter Try.func38, Try.ntmps38
  go_wp2
  refine wp_region_T (Since _) [31] [] [11, 13, 16, 18] [0, 1, 2, 3, 5, 6, 7, 8, 10, 11, 12, 13, 4, 9, 14, 15, 16, 17, 18] (by kernel_rfl) (by kernel_rfl) (by kernel_rfl) (Since.drew _) ?_; simp only [pickL, List.getElem?_cons_succ, List.getElem?_cons_zero]
  go_wp2_with (first
    | (with_reducible refine Since.and_ ?_ ?_; (focus (repeat (first | (with_reducible exact Since.refl _) | assumption | (with_reducible refine Since.drewR ?_) | (with_reducible refine Since.alloc ?_ _) | ((with_reducible apply Since.below); rotate_left; (focus assumption))))); intro hS) | ((with_reducible refine wpT_q0 ?_ ?_ ?_ ?_); (focus rfl); (focus rfl); (focus rfl); intro K hK) | ((with_reducible apply wpT_l); (focus rfl); (focus rfl); (focus rfl); (focus rfl); (focus (first | exact Since.drew _ | assumption)); (focus (simp <;> omega)); (focus go_simp); intro K hK) | ((with_reducible refine wpT_xs0 ?_ ?_ ?_); (focus rfl); (focus rfl); intro K hK) | ((with_reducible refine wpT_noL ?_ ?_); (focus (first | exact wanted_no _ _ _ rfl rfl rfl | exact wanted_un _ _ _ rfl rfl rfl)); simp only [setO, List.set_cons_succ, List.set_cons_zero]) | ((with_reducible refine wpT_q1 ?_ ?_ ?_ ?_); (focus exact wanted_yes _ _ _ rfl rfl rfl); (focus rfl); (focus rfl); intro K hK) | ((with_reducible refine wpT_xs1 ?_ ?_ ?_); (focus exact wanted_yes _ _ _ rfl rfl rfl); (focus rfl); intro K hK) | ((with_reducible refine wpT_nil ?_); try dsimp only)
    | (go_at_call 54; refine (compare_c _ _ _).mono ?_; rintro e w1 ⟨rfl, rfl⟩)
    | (go_at_call 53; refine (or_c (cmp3 a x) (cmp3 b y) (cmp3 c z) _ _ _ _ ?_ ?_ ?_).mono ?_; (focus go_simp); (focus go_simp); (focus go_simp); rintro e w1 ⟨rfl, rfl⟩))
  go_ret
  exact ⟨congrArg (fun b => Ending.returned (.bool b)) (or_cmp a b c x y z), ((((Below.refl _ _).alloc (Nat.le_refl _) _).alloc (by simp) _).alloc (by simp; omega) _).drew⟩
end Go.Proofs.Ytaklfalkpkifmaa
