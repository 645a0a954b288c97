/-
  'markPlayer', 'heldPlayer'.
-/
import Derived.Test.YtchofialljhojaaGM
import Derived.Test.YtchofialljhojaaRegG
namespace Go.Proofs.Ytchofialljhojaa
open Go.RowKit Rg
set_option linter.unusedVariables false
set_option linter.unusedSimpArgs false

theorem Rg.Since.setNew {w0 w : World} (h : Since w0 w) {p : Addr} (hp : w0.heap.size ≤ p.block) (v : Value) : Since w0 (w.setCell p v) :=
  ⟨by simpa using h.size, fun b hb => (Below.heap_setCell w p v b (by omega)).trans (h.block b hb)⟩
theorem hear_len (r : ReqV) (xs : List ReplyT) (t : ReplyT) (h : xs.length ≤ 1048576) : (hearL r xs t).1.2.length ≤ 1048576 := by
  unfold hearL
  split
  · rename_i hok
    have := okPl_len hok
    unfold hearF
    split
    · simp; omega
    · exact h
  · simp
theorem markPlayer_c (r : ReqV) (A : Option Addr) (n c lo : Nat) (k : Int) (xs : List ReplyT) (w : World) (hn : n = xs.length) (hb : n ≤ 1048576) (hk0 : 0 ≤ k) (hk1 : k ≤ 1099511627776) (ho : Own encReply 4 37 w lo (.slice A n c) xs) :
    Calls Try.prog 30 #[.agg #[.int .i64 r.1, .int .i64 r.2.1, .int .i64 r.2.2.1, .int .i64 r.2.2.2.1, .int .i64 r.2.2.2.2, .slice A n c], .int .i64 k] w fun e w' => e = .returned (.int .i64 (k + 4 * n)) ∧ Own encReply 4 37 w' lo (.slice A n c) (marksReply k n) ∧ Only w.heap.size (Value.slice A n c).ownBlock w w' := by
  have hn' := hide hn
  clear hn
  have hA := (Below.refl w.heap.size w).alloc (Nat.le_refl _) (.cells #[.int .i64 r.1, .int .i64 r.2.1, .int .i64 r.2.2.1, .int .i64 r.2.2.2.1, .int .i64 r.2.2.2.2, .slice A n c] 32)
  have hx := Box6.made w r.1 r.2.1 r.2.2.1 r.2.2.2.1 r.2.2.2.2 A n c 32
  have ho1 := ho.alloc (.cells #[.int .i64 r.1, .int .i64 r.2.1, .int .i64 r.2.2.1, .int .i64 r.2.2.2.1, .int .i64 r.2.2.2.2, .slice A n c] 32)
  obtain ⟨x0, x1, x2, x3, x4, x5, xf0, xf1, xf2, xf3, xf4, xf5⟩ := hx
  go_enter Try.func30, Try.ntmps30
  go_wp2_with fail
  generalize w.alloc (.cells #[.int .i64 r.1, .int .i64 r.2.1, .int .i64 r.2.2.1, .int .i64 r.2.2.2.1, .int .i64 r.2.2.2.2, .slice A n c] 32) = w1 at *
  refine (markReplyS_c A n c lo k xs w1 hn'.out hb hk0 hk1 ho1).mono ?_
  rintro e w2 ⟨rfl, ho2, h2⟩
  go_wp2
  go_ret
  exact ⟨rfl, ho2, (Only.of_below hA).trans (h2.mono hA.size)⟩
theorem heldPlayer_c (r : ReqV) (A : Option Addr) (n c lo hi : Nat) (k : Int) (w : World) (hb : n ≤ 1048576) (hk0 : 0 ≤ k) (hk1 : k ≤ 1099511627776) (hs : Sl encReply 4 w lo w.heap.size A (marksReply k n)) :
    Calls Try.prog 31 #[.agg #[.int .i64 r.1, .int .i64 r.2.1, .int .i64 r.2.2.1, .int .i64 r.2.2.2.1, .int .i64 r.2.2.2.2, .slice A n c], .int .i64 k] w fun e w' => e = .returned (.int .i64 (k + 4 * n)) ∧ Below w.heap.size w w' := by
  have hA := (Below.refl w.heap.size w).alloc (Nat.le_refl _) (.cells #[.int .i64 r.1, .int .i64 r.2.1, .int .i64 r.2.2.1, .int .i64 r.2.2.2.1, .int .i64 r.2.2.2.2, .slice A n c] 32)
  have hx := Box6.made w r.1 r.2.1 r.2.2.1 r.2.2.2.1 r.2.2.2.2 A n c 32
  have hs1 := hs.below hA (Nat.le_refl _)
  obtain ⟨x0, x1, x2, x3, x4, x5, xf0, xf1, xf2, xf3, xf4, xf5⟩ := hx
  have d1 : decide (k + 4 * (n : Int) < 0) = false := by simp; omega
  go_enter Try.func31, Try.ntmps31
  go_wp2_with fail
  generalize w.alloc (.cells #[.int .i64 r.1, .int .i64 r.2.1, .int .i64 r.2.2.1, .int .i64 r.2.2.2.1, .int .i64 r.2.2.2.2, .slice A n c] 32) = w1 at *
  refine (heldReplyS_c A n c lo _ k w1 hb hk0 hk1 hs1).mono ?_
  rintro e w2 ⟨rfl, rfl⟩
  go_wp2
  go_ret
  exact ⟨rfl, hA⟩
end Go.Proofs.Ytchofialljhojaa
