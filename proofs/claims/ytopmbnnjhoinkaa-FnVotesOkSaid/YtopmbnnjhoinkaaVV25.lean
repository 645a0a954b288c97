/-
  What 'FVd' rests on (texts of this seat put together: NSh).
  Conditions: none.
-/
import Derived.Test.YtopmbnnjhoinkaaVV24
namespace Go.Proofs.Ytopmbnnjhoinkaa
open Go.RowKit Rg Go.Maps
set_option linter.unusedVariables false
set_option linter.unusedSimpArgs false
set_option maxHeartbeats 1000000
theorem l4Asked_c (ts : List MsgT) (r : ReqV) (A0 : Option Addr) (n0 c0 lo hi : Nat) (w : World) (hs : RdN 11 msgR w lo hi A0 n0 c0 ts) (hhi : hi ≤ w.heap.size) :
    Calls Try.prog 100 #[.slice A0 n0 c0, .agg #[.int .i64 r.1, .int .i64 r.2.1, .int .i64 r.2.2.1, .int .i64 r.2.2.2.1, .int .i64 r.2.2.2.2]] w fun e w' => e = .returned (.bool (decide (askM r ∈ ts))) ∧ Below w.heap.size w w' := by
  have hA := (Below.refl w.heap.size w).alloc (Nat.le_refl _) (.cells #[.int .i64 r.1, .int .i64 r.2.1, .int .i64 r.2.2.1, .int .i64 r.2.2.2.1, .int .i64 r.2.2.2.2] 25)
  have hz := hA.size
  go_enter Try.func100, Try.ntmps100
  go_wp2_with fail
  refine (l3Has_c ts (askM r) A0 n0 c0 lo hi 0 0 none none 0 0 0 0 _ (hs.below msg_kept hA hhi) (RdN.nil_ _ _ _ _ _ _ _ (by simp [maxLen])) (RdN.nil_ _ _ _ _ _ _ _ (by simp [maxLen])) (Nat.le_trans hhi hz) (Nat.zero_le _)).mono ?_
  rintro e w1 ⟨rfl, hb1⟩
  go_wp2
  go_ret
  exact ⟨rfl, hA.trans (hb1.mono hz)⟩
end Go.Proofs.Ytopmbnnjhoinkaa
