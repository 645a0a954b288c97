/-
  Marks on a keeper that the call itself made: only its own blocks are written. (Printed by gen_nlp.py.)
  Conditions: none.
-/
import Derived.Test.YtphlnihmfgmecaaNLm
namespace Go.Proofs.Ytphlnihmfgmecaa
open Go.RowKit Rg
set_option linter.unusedVariables false
set_option linter.unusedSimpArgs false

set_option maxHeartbeats 1000000 in
theorem markRep_c (t : RepT) (A B E : Option Addr) (n c p d q f : Nat) (lo m1 m2 hi : Nat) (k : Int) (w : World) (h0 : OwnC w lo m1 A n c t.2.2.2.2.1) (h1 : FrM w m1 m2 B p d t.2.2.2.2.2.1) (h2 : OwnC w m2 hi E q f t.2.2.2.2.2.2)
    (l1 : lo ≤ m1) (l2 : m1 ≤ m2) (l3 : m2 ≤ hi) (hhi : hi ≤ w.heap.size) (hb : szRep t ≤ 1048576) (hk0 : 0 ≤ k) (hk1 : k ≤ 100) :
    Calls Try.prog 65 #[.agg #[.int .i64 t.1, .int .i64 t.2.1, .bool t.2.2.1, .int .i64 t.2.2.2.1, .slice A n c, .slice B p d, .slice E q f], .int .i64 k] w fun e w' => ∃ r : Int, e = .returned (.int .i64 r) ∧ 0 ≤ r ∧ Mid lo hi w w' := by
  have hA : Below w.heap.size w (w.alloc (.cells #[.int .i64 t.1, .int .i64 t.2.1, .bool t.2.2.1, .int .i64 t.2.2.2.1, .slice A n c, .slice B p d, .slice E q f] 39)) := (Below.refl _ _).alloc (Nat.le_refl _) _
  have x4 : (w.alloc (.cells #[.int .i64 t.1, .int .i64 t.2.1, .bool t.2.2.1, .int .i64 t.2.2.2.1, .slice A n c, .slice B p d, .slice E q f] 39)).cell? ⟨w.heap.size, 4, none⟩ = some (.slice A n c) := by simp
  have x5 : (w.alloc (.cells #[.int .i64 t.1, .int .i64 t.2.1, .bool t.2.2.1, .int .i64 t.2.2.2.1, .slice A n c, .slice B p d, .slice E q f] 39)).cell? ⟨w.heap.size, 5, none⟩ = some (.slice B p d) := by simp
  have x6 : (w.alloc (.cells #[.int .i64 t.1, .int .i64 t.2.1, .bool t.2.2.1, .int .i64 t.2.2.2.1, .slice A n c, .slice B p d, .slice E q f] 39)).cell? ⟨w.heap.size, 6, none⟩ = some (.slice E q f) := by simp
  have hn' := hide h0.1.lenEq
  have hp' := hide (Fr.len h1)
  have hq' := hide h2.1.lenEq
  have hs : Hid (szRep t = n + szMsgs t.2.2.2.2.2.1 + q) := hide (by unfold szRep; rw [hn'.out, hq'.out])
  have hmm : szMsgs t.2.2.2.2.2.1 ≤ 1048576 := by have := hs.out; omega
  have hnn : n ≤ 1048576 := by have := hs.out; omega
  have hqq : q ≤ 1048576 := by have := hs.out; omega
  have hmk := hide (mkMsgs_le t.2.2.2.2.2.1)
  have hmb : ((t.2.2.2.2.2.1.map mkMsg).sum) ≤ 20000000 := by have h1 := hmk.out; have h2 := hmm; unfold szMsgs at h2; omega
  have h0 := h0.below hA (by omega)
  have h1 := Fr.below msgF_kept h1 hA (by omega)
  have h2 := h2.below hA (by omega)
  have hM := Mid.of_below (lo := lo) (hi := hi) hA
  have hz := hA.size
  have hl : w.heap.size < (w.alloc (.cells #[.int .i64 t.1, .int .i64 t.2.1, .bool t.2.2.1, .int .i64 t.2.2.2.1, .slice A n c, .slice B p d, .slice E q f] 39)).heap.size := by simp
  go_enter Try.func65, Try.ntmps65
  go_wp2_with fail
  generalize (w.alloc (.cells #[.int .i64 t.1, .int .i64 t.2.1, .bool t.2.2.1, .int .i64 t.2.2.2.1, .slice A n c, .slice B p d, .slice E q f] 39)) = w0 at *
  refine (markClaimS_c A n c lo k t.2.2.2.2.1 w0 hn'.out hnn (by omega) (by omega) h0.1).mono ?_
  rintro e w1 ⟨rfl, _, hon⟩
  have hM1 : Mid lo m1 w0 w1 := Mid.of_only hon (fun b hb => ⟨(h0.1.lt b hb).1, h0.2 b hb⟩)
  have x5 := hM1.keepc (by omega) x5
  have x6 := hM1.keepc (by omega) x6
  have h1 := Fr.keep msgF_kept h1 (fun b h3 h4 => hM1.block b (by omega) (by omega))
  have h2 := h2.keep (fun b h3 h4 => hM1.block b (by omega) (by omega))
  have hz1 := hM1.size
  have hM := hM.trans (hM1.wider (by omega) (by omega))
  clear hM1 hon h0
  go_wp2_with fail
  refine (markMsgS_c B p d m1 m2 (k + 7 * (n : Int)) t.2.2.2.2.2.1 w1 h1 (by omega) hmm (by omega) (by omega)).mono ?_
  rintro e w2 ⟨rfl, hM2⟩
  have x6 := hM2.keepc (by omega) x6
  have h2 := h2.keep (fun b h3 h4 => hM2.block b (by omega) (by omega))
  have hz2 := hM2.size
  have hM := hM.trans (hM2.wider (by omega) (by omega))
  clear hM2 h1
  go_wp2_with fail
  refine (markClaimS_c E q f m2 (k + 7 * (n : Int) + ((t.2.2.2.2.2.1.map mkMsg).sum : Nat)) t.2.2.2.2.2.2 w2 hq'.out hqq (by omega) (by omega) h2.1).mono ?_
  rintro e w3 ⟨rfl, _, hon⟩
  have hM3 : Mid m2 hi w2 w3 := Mid.of_only hon (fun b hb => ⟨(h2.1.lt b hb).1, h2.2 b hb⟩)
  have hM := hM.trans (hM3.wider (by omega) (by omega))
  go_wp2
  go_ret
  exact ⟨_, rfl, by omega, hM⟩
end Go.Proofs.Ytphlnihmfgmecaa
