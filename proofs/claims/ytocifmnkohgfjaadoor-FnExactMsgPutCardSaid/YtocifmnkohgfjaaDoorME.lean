/-
  'FnExactMsgPut' returns true, for every argument: the program's MsgPut answers what the reference's does.
  Conditions: the library's table of powers of ten and the program's words read as their text lays them (tied by the card).
-/
import Derived.Test.YtocifmnkohgfjaaDoorMD
import Derived.Test.YtocifmnkohgfjaaDoorNX
namespace Go.Proofs.YtocifmnkohgfjaaDoor
open Go.RowKit Rg
set_option linter.unusedVariables false
set_option linter.unusedSimpArgs false

set_option maxRecDepth 100000 in
set_option maxHeartbeats 4000000 in
theorem lawExactMsgPut (t : MsgT) (A B : Option Addr) (n c p d : Nat) (w : World) (h0 : RdN 7 clR w 0 w.heap.size A n c t.2.2.2.2.2.1) (h1 : RdN 2 voteR w 0 w.heap.size B p d t.2.2.2.2.2.2) (ht : Tab w) (hw : WordsAt w) (hk : KindsAt w) :
    Calls Tryd.prog 3 #[.agg #[.int .i64 t.1, .int .i64 t.2.1, .int .i64 t.2.2.1, .int .i64 t.2.2.2.1, .int .i64 t.2.2.2.2.1.1, .int .i64 t.2.2.2.2.1.2.1, .int .i64 t.2.2.2.2.1.2.2.1, .int .i64 t.2.2.2.2.1.2.2.2.1, .int .i64 t.2.2.2.2.1.2.2.2.2, .slice A n c, .slice B p d]] w fun e w' => e = .returned (.bool true) ∧ Below w.heap.size w w' := by
  have hB : Below w.heap.size w (w.alloc (.cells #[.int .i64 t.1, .int .i64 t.2.1, .int .i64 t.2.2.1, .int .i64 t.2.2.2.1, .int .i64 t.2.2.2.2.1.1, .int .i64 t.2.2.2.2.1.2.1, .int .i64 t.2.2.2.2.1.2.2.1, .int .i64 t.2.2.2.2.1.2.2.2.1, .int .i64 t.2.2.2.2.1.2.2.2.2, .slice A n c, .slice B p d] 27)) := (Below.refl _ _).alloc (Nat.le_refl _) _
  have x0 : (w.alloc (.cells #[.int .i64 t.1, .int .i64 t.2.1, .int .i64 t.2.2.1, .int .i64 t.2.2.2.1, .int .i64 t.2.2.2.2.1.1, .int .i64 t.2.2.2.2.1.2.1, .int .i64 t.2.2.2.2.1.2.2.1, .int .i64 t.2.2.2.2.1.2.2.2.1, .int .i64 t.2.2.2.2.1.2.2.2.2, .slice A n c, .slice B p d] 27)).cell? ⟨w.heap.size, 0, none⟩ = some (.int .i64 t.1) := by simp
  have x1 : (w.alloc (.cells #[.int .i64 t.1, .int .i64 t.2.1, .int .i64 t.2.2.1, .int .i64 t.2.2.2.1, .int .i64 t.2.2.2.2.1.1, .int .i64 t.2.2.2.2.1.2.1, .int .i64 t.2.2.2.2.1.2.2.1, .int .i64 t.2.2.2.2.1.2.2.2.1, .int .i64 t.2.2.2.2.1.2.2.2.2, .slice A n c, .slice B p d] 27)).cell? ⟨w.heap.size, 1, none⟩ = some (.int .i64 t.2.1) := by simp
  have x2 : (w.alloc (.cells #[.int .i64 t.1, .int .i64 t.2.1, .int .i64 t.2.2.1, .int .i64 t.2.2.2.1, .int .i64 t.2.2.2.2.1.1, .int .i64 t.2.2.2.2.1.2.1, .int .i64 t.2.2.2.2.1.2.2.1, .int .i64 t.2.2.2.2.1.2.2.2.1, .int .i64 t.2.2.2.2.1.2.2.2.2, .slice A n c, .slice B p d] 27)).cell? ⟨w.heap.size, 2, none⟩ = some (.int .i64 t.2.2.1) := by simp
  have x3 : (w.alloc (.cells #[.int .i64 t.1, .int .i64 t.2.1, .int .i64 t.2.2.1, .int .i64 t.2.2.2.1, .int .i64 t.2.2.2.2.1.1, .int .i64 t.2.2.2.2.1.2.1, .int .i64 t.2.2.2.2.1.2.2.1, .int .i64 t.2.2.2.2.1.2.2.2.1, .int .i64 t.2.2.2.2.1.2.2.2.2, .slice A n c, .slice B p d] 27)).cell? ⟨w.heap.size, 3, none⟩ = some (.int .i64 t.2.2.2.1) := by simp
  have x4 : (w.alloc (.cells #[.int .i64 t.1, .int .i64 t.2.1, .int .i64 t.2.2.1, .int .i64 t.2.2.2.1, .int .i64 t.2.2.2.2.1.1, .int .i64 t.2.2.2.2.1.2.1, .int .i64 t.2.2.2.2.1.2.2.1, .int .i64 t.2.2.2.2.1.2.2.2.1, .int .i64 t.2.2.2.2.1.2.2.2.2, .slice A n c, .slice B p d] 27)).cell? ⟨w.heap.size, 4, none⟩ = some (.int .i64 t.2.2.2.2.1.1) := by simp
  have x5 : (w.alloc (.cells #[.int .i64 t.1, .int .i64 t.2.1, .int .i64 t.2.2.1, .int .i64 t.2.2.2.1, .int .i64 t.2.2.2.2.1.1, .int .i64 t.2.2.2.2.1.2.1, .int .i64 t.2.2.2.2.1.2.2.1, .int .i64 t.2.2.2.2.1.2.2.2.1, .int .i64 t.2.2.2.2.1.2.2.2.2, .slice A n c, .slice B p d] 27)).cell? ⟨w.heap.size, 5, none⟩ = some (.int .i64 t.2.2.2.2.1.2.1) := by simp
  have x6 : (w.alloc (.cells #[.int .i64 t.1, .int .i64 t.2.1, .int .i64 t.2.2.1, .int .i64 t.2.2.2.1, .int .i64 t.2.2.2.2.1.1, .int .i64 t.2.2.2.2.1.2.1, .int .i64 t.2.2.2.2.1.2.2.1, .int .i64 t.2.2.2.2.1.2.2.2.1, .int .i64 t.2.2.2.2.1.2.2.2.2, .slice A n c, .slice B p d] 27)).cell? ⟨w.heap.size, 6, none⟩ = some (.int .i64 t.2.2.2.2.1.2.2.1) := by simp
  have x7 : (w.alloc (.cells #[.int .i64 t.1, .int .i64 t.2.1, .int .i64 t.2.2.1, .int .i64 t.2.2.2.1, .int .i64 t.2.2.2.2.1.1, .int .i64 t.2.2.2.2.1.2.1, .int .i64 t.2.2.2.2.1.2.2.1, .int .i64 t.2.2.2.2.1.2.2.2.1, .int .i64 t.2.2.2.2.1.2.2.2.2, .slice A n c, .slice B p d] 27)).cell? ⟨w.heap.size, 7, none⟩ = some (.int .i64 t.2.2.2.2.1.2.2.2.1) := by simp
  have x8 : (w.alloc (.cells #[.int .i64 t.1, .int .i64 t.2.1, .int .i64 t.2.2.1, .int .i64 t.2.2.2.1, .int .i64 t.2.2.2.2.1.1, .int .i64 t.2.2.2.2.1.2.1, .int .i64 t.2.2.2.2.1.2.2.1, .int .i64 t.2.2.2.2.1.2.2.2.1, .int .i64 t.2.2.2.2.1.2.2.2.2, .slice A n c, .slice B p d] 27)).cell? ⟨w.heap.size, 8, none⟩ = some (.int .i64 t.2.2.2.2.1.2.2.2.2) := by simp
  have x9 : (w.alloc (.cells #[.int .i64 t.1, .int .i64 t.2.1, .int .i64 t.2.2.1, .int .i64 t.2.2.2.1, .int .i64 t.2.2.2.2.1.1, .int .i64 t.2.2.2.2.1.2.1, .int .i64 t.2.2.2.2.1.2.2.1, .int .i64 t.2.2.2.2.1.2.2.2.1, .int .i64 t.2.2.2.2.1.2.2.2.2, .slice A n c, .slice B p d] 27)).cell? ⟨w.heap.size, 9, none⟩ = some (.slice A n c) := by simp
  have x10 : (w.alloc (.cells #[.int .i64 t.1, .int .i64 t.2.1, .int .i64 t.2.2.1, .int .i64 t.2.2.2.1, .int .i64 t.2.2.2.2.1.1, .int .i64 t.2.2.2.2.1.2.1, .int .i64 t.2.2.2.2.1.2.2.1, .int .i64 t.2.2.2.2.1.2.2.2.1, .int .i64 t.2.2.2.2.1.2.2.2.2, .slice A n c, .slice B p d] 27)).cell? ⟨w.heap.size, 10, none⟩ = some (.slice B p d) := by simp
  have hl : w.heap.size < (w.alloc (.cells #[.int .i64 t.1, .int .i64 t.2.1, .int .i64 t.2.2.1, .int .i64 t.2.2.2.1, .int .i64 t.2.2.2.2.1.1, .int .i64 t.2.2.2.2.1.2.1, .int .i64 t.2.2.2.2.1.2.2.1, .int .i64 t.2.2.2.2.1.2.2.2.1, .int .i64 t.2.2.2.2.1.2.2.2.2, .slice A n c, .slice B p d] 27)).heap.size := by simp
  have ks := hide (fun W (h : Below w.heap.size w W) => szMsg_c t A B n c p d 0 w.heap.size 1048576 W (h0.below (flat_kept _) h (Nat.le_refl _)) (h1.below vote_kept h (Nat.le_refl _)) h.size (by omega))
  by_cases hz : szMsg t ≤ 1048576
  · have y := hide (szO_yes hz)
    have hzp : Hid (szMsg t = t.2.2.2.2.2.1.length + szVotes t.2.2.2.2.2.2) := hide rfl
    have kt := hide (fun W (h : Below w.heap.size w W) => toMsg_c t A B n c p d 0 w.heap.size W (h0.below (flat_kept _) h (Nat.le_refl _)) (h1.below vote_kept h (Nat.le_refl _)) h.size (by have := hzp.out; omega) (by have := hzp.out; omega))
    have c1 : ((asS (putMsg t)).toList != (asS (putMsg t)).toList) = false := by simp
    have d1 : decide (((1048576 - szMsg t : Nat) : Int) < 0) = false := by simp
    go_enter Tryd.func3, Tryd.ntmps3
    go_wp2_with fail
    generalize w.alloc (.cells #[.int .i64 t.1, .int .i64 t.2.1, .int .i64 t.2.2.1, .int .i64 t.2.2.2.1, .int .i64 t.2.2.2.2.1.1, .int .i64 t.2.2.2.2.1.2.1, .int .i64 t.2.2.2.2.1.2.2.1, .int .i64 t.2.2.2.2.1.2.2.2.1, .int .i64 t.2.2.2.2.1.2.2.2.2, .slice A n c, .slice B p d] 27) = v0 at *
    refine (ks.out _ hB).mono ?_
    rintro e u0 ⟨rfl, hb0⟩
    rw [y.out]
    have x0 := keepc hb0 x0
    have x1 := keepc hb0 x1
    have x2 := keepc hb0 x2
    have x3 := keepc hb0 x3
    have x4 := keepc hb0 x4
    have x5 := keepc hb0 x5
    have x6 := keepc hb0 x6
    have x7 := keepc hb0 x7
    have x8 := keepc hb0 x8
    have x9 := keepc hb0 x9
    have x10 := keepc hb0 x10
    have hB := hB.trans (hb0.mono hB.size)
    have hl := Nat.lt_of_lt_of_le hl hb0.size
    go_wp2_with fail
    refine (kt.out _ hB).mono ?_
    rintro e u1 ⟨A1, B1, n1, c1, p1, d1, rfl, f1, hb1⟩
    have x0 := keepc hb1 x0
    have x1 := keepc hb1 x1
    have x2 := keepc hb1 x2
    have x3 := keepc hb1 x3
    have x4 := keepc hb1 x4
    have x5 := keepc hb1 x5
    have x6 := keepc hb1 x6
    have x7 := keepc hb1 x7
    have x8 := keepc hb1 x8
    have x9 := keepc hb1 x9
    have x10 := keepc hb1 x10
    have hB := hB.trans (hb1.mono hB.size)
    have hl := Nat.lt_of_lt_of_le hl hb1.size
    obtain ⟨g0, g1⟩ := msgR_inv (msgF_R f1)
    clear f1
    go_wp2_with fail
    refine (specMsgPut_c t A1 B1 n1 c1 p1 d1 u0.heap.size u1.heap.size u1 g0 g1 (Nat.le_refl _) hz).mono ?_
    rintro e u2 ⟨rfl, hb2⟩
    have x0 := keepc hb2 x0
    have x1 := keepc hb2 x1
    have x2 := keepc hb2 x2
    have x3 := keepc hb2 x3
    have x4 := keepc hb2 x4
    have x5 := keepc hb2 x5
    have x6 := keepc hb2 x6
    have x7 := keepc hb2 x7
    have x8 := keepc hb2 x8
    have x9 := keepc hb2 x9
    have x10 := keepc hb2 x10
    have hB := hB.trans (hb2.mono hB.size)
    have hl := Nat.lt_of_lt_of_le hl hb2.size
    clear g0 g1
    go_wp2_with fail
    refine (kt.out _ hB).mono ?_
    rintro e u3 ⟨A2, B2, n2, c2, p2, d2, rfl, f3, hb3⟩
    have x0 := keepc hb3 x0
    have x1 := keepc hb3 x1
    have x2 := keepc hb3 x2
    have x3 := keepc hb3 x3
    have x4 := keepc hb3 x4
    have x5 := keepc hb3 x5
    have x6 := keepc hb3 x6
    have x7 := keepc hb3 x7
    have x8 := keepc hb3 x8
    have x9 := keepc hb3 x9
    have x10 := keepc hb3 x10
    have hB := hB.trans (hb3.mono hB.size)
    have hl := Nat.lt_of_lt_of_le hl hb3.size
    obtain ⟨q0, q1⟩ := msgR_inv (msgF_R f3)
    clear f3
    have hA := (Below.refl u3.heap.size u3).alloc (Nat.le_refl _) (.cells #[.int .i64 t.1, .int .i64 t.2.1, .int .i64 t.2.2.1, .int .i64 t.2.2.2.1, .int .i64 t.2.2.2.2.1.1, .int .i64 t.2.2.2.2.1.2.1, .int .i64 t.2.2.2.2.1.2.2.1, .int .i64 t.2.2.2.2.1.2.2.2.1, .int .i64 t.2.2.2.2.1.2.2.2.2, .slice A2 n2 c2, .slice B2 p2 d2] 34)
    have y0 : (u3.alloc (.cells #[.int .i64 t.1, .int .i64 t.2.1, .int .i64 t.2.2.1, .int .i64 t.2.2.2.1, .int .i64 t.2.2.2.2.1.1, .int .i64 t.2.2.2.2.1.2.1, .int .i64 t.2.2.2.2.1.2.2.1, .int .i64 t.2.2.2.2.1.2.2.2.1, .int .i64 t.2.2.2.2.1.2.2.2.2, .slice A2 n2 c2, .slice B2 p2 d2] 34)).cell? ⟨u3.heap.size, 0, none⟩ = some (.int .i64 t.1) := by simp
    have y1 : (u3.alloc (.cells #[.int .i64 t.1, .int .i64 t.2.1, .int .i64 t.2.2.1, .int .i64 t.2.2.2.1, .int .i64 t.2.2.2.2.1.1, .int .i64 t.2.2.2.2.1.2.1, .int .i64 t.2.2.2.2.1.2.2.1, .int .i64 t.2.2.2.2.1.2.2.2.1, .int .i64 t.2.2.2.2.1.2.2.2.2, .slice A2 n2 c2, .slice B2 p2 d2] 34)).cell? ⟨u3.heap.size, 1, none⟩ = some (.int .i64 t.2.1) := by simp
    have y2 : (u3.alloc (.cells #[.int .i64 t.1, .int .i64 t.2.1, .int .i64 t.2.2.1, .int .i64 t.2.2.2.1, .int .i64 t.2.2.2.2.1.1, .int .i64 t.2.2.2.2.1.2.1, .int .i64 t.2.2.2.2.1.2.2.1, .int .i64 t.2.2.2.2.1.2.2.2.1, .int .i64 t.2.2.2.2.1.2.2.2.2, .slice A2 n2 c2, .slice B2 p2 d2] 34)).cell? ⟨u3.heap.size, 2, none⟩ = some (.int .i64 t.2.2.1) := by simp
    have y3 : (u3.alloc (.cells #[.int .i64 t.1, .int .i64 t.2.1, .int .i64 t.2.2.1, .int .i64 t.2.2.2.1, .int .i64 t.2.2.2.2.1.1, .int .i64 t.2.2.2.2.1.2.1, .int .i64 t.2.2.2.2.1.2.2.1, .int .i64 t.2.2.2.2.1.2.2.2.1, .int .i64 t.2.2.2.2.1.2.2.2.2, .slice A2 n2 c2, .slice B2 p2 d2] 34)).cell? ⟨u3.heap.size, 3, none⟩ = some (.int .i64 t.2.2.2.1) := by simp
    have y4 : (u3.alloc (.cells #[.int .i64 t.1, .int .i64 t.2.1, .int .i64 t.2.2.1, .int .i64 t.2.2.2.1, .int .i64 t.2.2.2.2.1.1, .int .i64 t.2.2.2.2.1.2.1, .int .i64 t.2.2.2.2.1.2.2.1, .int .i64 t.2.2.2.2.1.2.2.2.1, .int .i64 t.2.2.2.2.1.2.2.2.2, .slice A2 n2 c2, .slice B2 p2 d2] 34)).cell? ⟨u3.heap.size, 4, none⟩ = some (.int .i64 t.2.2.2.2.1.1) := by simp
    have y5 : (u3.alloc (.cells #[.int .i64 t.1, .int .i64 t.2.1, .int .i64 t.2.2.1, .int .i64 t.2.2.2.1, .int .i64 t.2.2.2.2.1.1, .int .i64 t.2.2.2.2.1.2.1, .int .i64 t.2.2.2.2.1.2.2.1, .int .i64 t.2.2.2.2.1.2.2.2.1, .int .i64 t.2.2.2.2.1.2.2.2.2, .slice A2 n2 c2, .slice B2 p2 d2] 34)).cell? ⟨u3.heap.size, 5, none⟩ = some (.int .i64 t.2.2.2.2.1.2.1) := by simp
    have y6 : (u3.alloc (.cells #[.int .i64 t.1, .int .i64 t.2.1, .int .i64 t.2.2.1, .int .i64 t.2.2.2.1, .int .i64 t.2.2.2.2.1.1, .int .i64 t.2.2.2.2.1.2.1, .int .i64 t.2.2.2.2.1.2.2.1, .int .i64 t.2.2.2.2.1.2.2.2.1, .int .i64 t.2.2.2.2.1.2.2.2.2, .slice A2 n2 c2, .slice B2 p2 d2] 34)).cell? ⟨u3.heap.size, 6, none⟩ = some (.int .i64 t.2.2.2.2.1.2.2.1) := by simp
    have y7 : (u3.alloc (.cells #[.int .i64 t.1, .int .i64 t.2.1, .int .i64 t.2.2.1, .int .i64 t.2.2.2.1, .int .i64 t.2.2.2.2.1.1, .int .i64 t.2.2.2.2.1.2.1, .int .i64 t.2.2.2.2.1.2.2.1, .int .i64 t.2.2.2.2.1.2.2.2.1, .int .i64 t.2.2.2.2.1.2.2.2.2, .slice A2 n2 c2, .slice B2 p2 d2] 34)).cell? ⟨u3.heap.size, 7, none⟩ = some (.int .i64 t.2.2.2.2.1.2.2.2.1) := by simp
    have y8 : (u3.alloc (.cells #[.int .i64 t.1, .int .i64 t.2.1, .int .i64 t.2.2.1, .int .i64 t.2.2.2.1, .int .i64 t.2.2.2.2.1.1, .int .i64 t.2.2.2.2.1.2.1, .int .i64 t.2.2.2.2.1.2.2.1, .int .i64 t.2.2.2.2.1.2.2.2.1, .int .i64 t.2.2.2.2.1.2.2.2.2, .slice A2 n2 c2, .slice B2 p2 d2] 34)).cell? ⟨u3.heap.size, 8, none⟩ = some (.int .i64 t.2.2.2.2.1.2.2.2.2) := by simp
    have y9 : (u3.alloc (.cells #[.int .i64 t.1, .int .i64 t.2.1, .int .i64 t.2.2.1, .int .i64 t.2.2.2.1, .int .i64 t.2.2.2.2.1.1, .int .i64 t.2.2.2.2.1.2.1, .int .i64 t.2.2.2.2.1.2.2.1, .int .i64 t.2.2.2.2.1.2.2.2.1, .int .i64 t.2.2.2.2.1.2.2.2.2, .slice A2 n2 c2, .slice B2 p2 d2] 34)).cell? ⟨u3.heap.size, 9, none⟩ = some (.slice A2 n2 c2) := by simp
    have y10 : (u3.alloc (.cells #[.int .i64 t.1, .int .i64 t.2.1, .int .i64 t.2.2.1, .int .i64 t.2.2.2.1, .int .i64 t.2.2.2.2.1.1, .int .i64 t.2.2.2.2.1.2.1, .int .i64 t.2.2.2.2.1.2.2.1, .int .i64 t.2.2.2.2.1.2.2.2.1, .int .i64 t.2.2.2.2.1.2.2.2.2, .slice A2 n2 c2, .slice B2 p2 d2] 34)).cell? ⟨u3.heap.size, 10, none⟩ = some (.slice B2 p2 d2) := by simp
    have x0 := keepc hA x0
    have x1 := keepc hA x1
    have x2 := keepc hA x2
    have x3 := keepc hA x3
    have x4 := keepc hA x4
    have x5 := keepc hA x5
    have x6 := keepc hA x6
    have x7 := keepc hA x7
    have x8 := keepc hA x8
    have x9 := keepc hA x9
    have x10 := keepc hA x10
    have hz3 := hA.size
    have q0 := q0.below (flat_kept _) hA (by omega)
    have q1 := q1.below vote_kept hA (by omega)
    have hB := hB.trans (hA.mono hB.size)
    have hl := Nat.lt_of_lt_of_le hl hz3
    have hl3 : u3.heap.size < (u3.alloc (.cells #[.int .i64 t.1, .int .i64 t.2.1, .int .i64 t.2.2.1, .int .i64 t.2.2.2.1, .int .i64 t.2.2.2.2.1.1, .int .i64 t.2.2.2.2.1.2.1, .int .i64 t.2.2.2.2.1.2.2.1, .int .i64 t.2.2.2.2.1.2.2.2.1, .int .i64 t.2.2.2.2.1.2.2.2.2, .slice A2 n2 c2, .slice B2 p2 d2] 34)).heap.size := by simp
    go_wp2_with fail
    generalize u3.alloc (.cells #[.int .i64 t.1, .int .i64 t.2.1, .int .i64 t.2.2.1, .int .i64 t.2.2.2.1, .int .i64 t.2.2.2.2.1.1, .int .i64 t.2.2.2.2.1.2.1, .int .i64 t.2.2.2.2.1.2.2.1, .int .i64 t.2.2.2.2.1.2.2.2.1, .int .i64 t.2.2.2.2.1.2.2.2.2, .slice A2 n2 c2, .slice B2 p2 d2] 34) = v3 at *
    refine (MsgPut_c t A2 B2 n2 c2 p2 d2 u2.heap.size u3.heap.size v3 q0 q1 hz3 hz (ht.below hB) (hw.below hB) (hk.below hB)).mono ?_
    rintro e u4 ⟨rfl, hb4⟩
    have x0 := keepc hb4 x0
    have x1 := keepc hb4 x1
    have x2 := keepc hb4 x2
    have x3 := keepc hb4 x3
    have x4 := keepc hb4 x4
    have x5 := keepc hb4 x5
    have x6 := keepc hb4 x6
    have x7 := keepc hb4 x7
    have x8 := keepc hb4 x8
    have x9 := keepc hb4 x9
    have x10 := keepc hb4 x10
    have y0 := keepc hb4 y0
    have y1 := keepc hb4 y1
    have y2 := keepc hb4 y2
    have y3 := keepc hb4 y3
    have y4 := keepc hb4 y4
    have y5 := keepc hb4 y5
    have y6 := keepc hb4 y6
    have y7 := keepc hb4 y7
    have y8 := keepc hb4 y8
    have y9 := keepc hb4 y9
    have y10 := keepc hb4 y10
    have hz4 := hb4.size
    have q0 := q0.below (flat_kept _) hb4 (by omega)
    have q1 := q1.below vote_kept hb4 (by omega)
    have hB := hB.trans (hb4.mono hB.size)
    have hl := Nat.lt_of_lt_of_le hl hz4
    have hl3 := Nat.lt_of_lt_of_le hl3 hz4
    go_wp2
    refine wp_region_T (Since _) [] [] [22] [0, 1, 2, 3, 4] (by kernel_rfl) (by kernel_rfl) (by kernel_rfl) (Since.drew _) ?_; simp only [pickL, List.getElem?_cons_succ, List.getElem?_cons_zero]
    have hD := (Below.refl u4.heap.size u4).drew
    have x0 := keepc hD x0
    have x1 := keepc hD x1
    have x2 := keepc hD x2
    have x3 := keepc hD x3
    have x4 := keepc hD x4
    have x5 := keepc hD x5
    have x6 := keepc hD x6
    have x7 := keepc hD x7
    have x8 := keepc hD x8
    have x9 := keepc hD x9
    have x10 := keepc hD x10
    have y0 := keepc hD y0
    have y1 := keepc hD y1
    have y2 := keepc hD y2
    have y3 := keepc hD y3
    have y4 := keepc hD y4
    have y5 := keepc hD y5
    have y6 := keepc hD y6
    have y7 := keepc hD y7
    have y8 := keepc hD y8
    have y9 := keepc hD y9
    have y10 := keepc hD y10
    have q0 := q0.below (flat_kept _) hD (by omega)
    have q1 := q1.below vote_kept hD (by omega)
    have hB := hB.trans (hD.mono hB.size)
    have hS : Since u4 u4.drew := Since.drew _
    have hz5 := hD.size
    clear hD hb0 hb1 hb2 hb3 hb4 hA
    generalize u4.drew = u5 at *
    go_wp2_with (first
      | (with_reducible refine Since.and_ ?_ ?_; (focus (repeat (first | (with_reducible exact Since.refl _) | assumption | (with_reducible refine Since.drewR ?_) | (with_reducible refine Since.alloc ?_ _) | ((with_reducible apply Since.below); rotate_left; (focus assumption))))); intro hS) | ((with_reducible refine wpT_q0 ?_ ?_ ?_ ?_); (focus rfl); (focus rfl); (focus rfl); intro K hK) | ((with_reducible apply wpT_l); (focus rfl); (focus rfl); (focus rfl); (focus rfl); (focus (first | exact Since.drew _ | assumption)); (focus (simp <;> omega)); (focus go_simp); intro K hK) | ((with_reducible refine wpT_xs0 ?_ ?_ ?_); (focus rfl); (focus rfl); intro K hK) | ((with_reducible refine wpT_noL ?_ ?_); (focus (first | exact wanted_no _ _ _ rfl rfl rfl | exact wanted_un _ _ _ rfl rfl rfl)); simp only [setO, List.set_cons_succ, List.set_cons_zero]) | ((with_reducible refine wpT_q1 ?_ ?_ ?_ ?_); (focus exact wanted_yes _ _ _ rfl rfl rfl); (focus rfl); (focus rfl); intro K hK) | ((with_reducible refine wpT_xs1 ?_ ?_ ?_); (focus exact wanted_yes _ _ _ rfl rfl rfl); (focus rfl); intro K hK) | ((with_reducible refine wpT_nil ?_); try dsimp only)
      | (go_at_call 6; refine (kt.out _ hB).mono ?_; rintro e u6 ⟨A3, B3, n3, c3, p3, d3, rfl, f6, hb6⟩; have hB := hB.trans (hb6.mono hB.size); obtain ⟨p0_, p1_⟩ := msgR_inv (msgF_R f6); clear f6; have q0 := q0.below (flat_kept _) hb6 (by omega); have q1 := q1.below vote_kept hb6 (by omega); have hz6 := hb6.size; have hb6 := hb6)
      | (go_at_call 8; refine (eqMsg_same t A2 B2 n2 c2 p2 d2 A3 B3 n3 c3 p3 d3 u2.heap.size u3.heap.size u5.heap.size u6.heap.size u6 q0 q1 p0_ p1_ (by omega) (Nat.le_refl _)).mono ?_; rintro e u7 ⟨rfl, hb7⟩; have hB := hB.trans (hb7.mono hB.size); have hb7 := hb7)
      | fail)
    go_ret
    exact ⟨rfl, hB⟩
  · have y := hide (szO_no (show 1048576 < szMsg t by omega))
    go_enter Tryd.func3, Tryd.ntmps3
    go_wp2_with fail
    generalize w.alloc (.cells #[.int .i64 t.1, .int .i64 t.2.1, .int .i64 t.2.2.1, .int .i64 t.2.2.2.1, .int .i64 t.2.2.2.2.1.1, .int .i64 t.2.2.2.2.1.2.1, .int .i64 t.2.2.2.2.1.2.2.1, .int .i64 t.2.2.2.2.1.2.2.2.1, .int .i64 t.2.2.2.2.1.2.2.2.2, .slice A n c, .slice B p d] 27) = v0 at *
    refine (ks.out _ hB).mono ?_
    rintro e u0 ⟨rfl, hb0⟩
    rw [y.out]
    have hB := hB.trans (hb0.mono hB.size)
    go_wp2
    go_ret
    exact ⟨rfl, hB⟩
end Go.Proofs.YtocifmnkohgfjaaDoor
