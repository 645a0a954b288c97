/-
  Functions over slices of 'Claim' (7 integers): what each returns; what each leaves of memory. (Printed by gen_list.py.)
-/
import Derived.Test.YtphlnihmfgmecaaNN
import Derived.WalkSpells
import Derived.WalkLawsBesides
namespace Go.Proofs.Ytphlnihmfgmecaa
open Go.RowKit Rg
set_option linter.unusedVariables false
set_option linter.unusedSimpArgs false

theorem Sl.getClaim {w : World} {lo hi b off k : Nat} {xs : List ClaimT} (h : Sl encClaim 7 w lo hi (some ⟨b, off, none⟩) xs) (hk : k < xs.length) :
    w.cell? ⟨b, off + k * 7, none⟩ = some (.int .i64 xs[k].1) ∧ w.cell? ⟨b, off + k * 7 + 1, none⟩ = some (.int .i64 xs[k].2.1) ∧ w.cell? ⟨b, off + k * 7 + 2, none⟩ = some (.int .i64 xs[k].2.2.1) ∧ w.cell? ⟨b, off + k * 7 + 3, none⟩ = some (.int .i64 xs[k].2.2.2.1) ∧ w.cell? ⟨b, off + k * 7 + 4, none⟩ = some (.int .i64 xs[k].2.2.2.2.1) ∧ w.cell? ⟨b, off + k * 7 + 5, none⟩ = some (.int .i64 xs[k].2.2.2.2.2.1) ∧ w.cell? ⟨b, off + k * 7 + 6, none⟩ = some (.int .i64 xs[k].2.2.2.2.2.2) :=
  ⟨h.at_ hk 0 _ rfl, h.at_ hk 1 _ rfl, h.at_ hk 2 _ rfl, h.at_ hk 3 _ rfl, h.at_ hk 4 _ rfl, h.at_ hk 5 _ rfl, h.at_ hk 6 _ rfl⟩
theorem Own.someClaim {w : World} {lo g n c k : Nat} {e : TypeId} {xs : List ClaimT} (h : Own encClaim 7 e w lo (.slice (some ⟨g, 0, none⟩) n c) xs) (hk : k < n) :
    ∃ z0 z1 z2 z3 z4 z5 z6 : Int, w.cell? ⟨g, k * 7, none⟩ = some (.int .i64 z0) ∧ w.cell? ⟨g, k * 7 + 1, none⟩ = some (.int .i64 z1) ∧ w.cell? ⟨g, k * 7 + 2, none⟩ = some (.int .i64 z2) ∧ w.cell? ⟨g, k * 7 + 3, none⟩ = some (.int .i64 z3) ∧ w.cell? ⟨g, k * 7 + 4, none⟩ = some (.int .i64 z4) ∧ w.cell? ⟨g, k * 7 + 5, none⟩ = some (.int .i64 z5) ∧ w.cell? ⟨g, k * 7 + 6, none⟩ = some (.int .i64 z6) := by
  obtain ⟨rfl, _, hs⟩ := h.slAt encClaim_len
  have := hs.getClaim hk
  simp only [Nat.zero_add] at this
  exact ⟨_, _, _, _, _, _, _, this⟩

/-- What 'markClaimS' writes, from k on. -/
def marksClaim (k : Int) (n : Nat) : List ClaimT := (List.range n).map fun (i : Nat) => (k + 7 * (i : Int), k + 7 * (i : Int) + 1, k + 7 * (i : Int) + 2, k + 7 * (i : Int) + 3, k + 7 * (i : Int) + 4, k + 7 * (i : Int) + 5, k + 7 * (i : Int) + 6)
theorem marksClaim_len (k : Int) (n : Nat) : (marksClaim k n).length = n := by simp [marksClaim]
theorem marksClaim_get (k : Int) (n i : Nat) (h : i < (marksClaim k n).length) : (marksClaim k n)[i] = (k + 7 * (i : Int), k + 7 * (i : Int) + 1, k + 7 * (i : Int) + 2, k + 7 * (i : Int) + 3, k + 7 * (i : Int) + 4, k + 7 * (i : Int) + 5, k + 7 * (i : Int) + 6) := by simp [marksClaim]
theorem marksClaim_succ (k : Int) (n : Nat) : marksClaim k (n + 1) = marksClaim k n ++ [(k + 7 * (n : Int), k + 7 * (n : Int) + 1, k + 7 * (n : Int) + 2, k + 7 * (n : Int) + 3, k + 7 * (n : Int) + 4, k + 7 * (n : Int) + 5, k + 7 * (n : Int) + 6)] := by
  simp [marksClaim, List.range_succ]
theorem marksClaim_set (k : Int) (j : Nat) (xs : List ClaimT) (h : j < xs.length) : (marksClaim k j ++ xs.drop j).set j (k + 7 * (j : Int), k + 7 * (j : Int) + 1, k + 7 * (j : Int) + 2, k + 7 * (j : Int) + 3, k + 7 * (j : Int) + 4, k + 7 * (j : Int) + 5, k + 7 * (j : Int) + 6) = marksClaim k (j + 1) ++ xs.drop (j + 1) := by
  rw [List.set_append_right _ _ (by rw [marksClaim_len]; omega), marksClaim_len, Nat.sub_self, List.drop_eq_getElem_cons h, List.set_cons_zero, marksClaim_succ, List.append_assoc]
  rfl
theorem markClaimS_c (A : Option Addr) (n c lo : Nat) (k : Int) (xs : List ClaimT) (w : World) (hn : n = xs.length) (hb : n ≤ 1048576) (hk0 : 0 ≤ k) (hk1 : k ≤ 1099511627776) (ho : Own encClaim 7 34 w lo (.slice A n c) xs) :
    Calls Try.prog 117 #[.slice A n c, .int .i64 k] w fun e w' => e = .returned (.int .i64 (k + 7 * n)) ∧ Own encClaim 7 34 w' lo (.slice A n c) (marksClaim k n) ∧ Only w.heap.size (Value.slice A n c).ownBlock w w' := by
  have hn' := hide hn
  clear hn
  go_enter Try.func117, Try.ntmps117
  go_wp2
  go_loopw [1, 5] (fun kk i wr => ∃ j : Nat, j ≤ n ∧ i = .int .i64 j ∧ kk = .int .i64 (k + 7 * j) ∧ Own encClaim 7 34 wr lo (.slice A n c) (marksClaim k j ++ xs.drop j) ∧ Only w.heap.size (Value.slice A n c).ownBlock w wr) (fun _ i _ => n - (intOf i).toNat)
  case atStart => exact ⟨0, Nat.zero_le _, rfl, by go_num, by simpa [marksClaim] using ho, Only.refl _ _ _⟩
  case round =>
    obtain ⟨j, hj, rfl, rfl, hor, hgr⟩ := hrel
    by_cases hlt : j < n
    · obtain ⟨g, rfl, hg1, hg2⟩ := hor.addrAt hlt
      obtain ⟨u0, u1, u2, u3, u4, u5, u6, c0, c1, c2, c3, c4, c5, c6⟩ := hor.someClaim hlt
      have f0 := hor.frozen (j * 7)
      have f1 := hor.frozen (j * 7 + 1)
      have f2 := hor.frozen (j * 7 + 2)
      have f3 := hor.frozen (j * 7 + 3)
      have f4 := hor.frozen (j * 7 + 4)
      have f5 := hor.frozen (j * 7 + 5)
      have f6 := hor.frozen (j * 7 + 6)
      have hx : j < xs.length := by have := hn'.out; omega
      go_wp2
      go_roundw
      case rel =>
        refine ⟨j + 1, by omega, by go_num, by go_num, ?_, ?_⟩
        · have h5 := hor.put_ encClaim_len hlt (k + 7 * (j : Int), k + 7 * (j : Int) + 1, k + 7 * (j : Int) + 2, k + 7 * (j : Int) + 3, k + 7 * (j : Int) + 4, k + 7 * (j : Int) + 5, k + 7 * (j : Int) + 6)
          rw [marksClaim_set k j xs hx] at h5
          have e2 : k + 7 * (j : Int) + 1 + 1 = k + 7 * (j : Int) + 2 := by omega
          have e3 : k + 7 * (j : Int) + 2 + 1 = k + 7 * (j : Int) + 3 := by omega
          have e4 : k + 7 * (j : Int) + 3 + 1 = k + 7 * (j : Int) + 4 := by omega
          have e5 : k + 7 * (j : Int) + 4 + 1 = k + 7 * (j : Int) + 5 := by omega
          have e6 : k + 7 * (j : Int) + 5 + 1 = k + 7 * (j : Int) + 6 := by omega
          try simp only [e2, e3, e4, e5, e6]
          exact h5
        · exact Only.put (encClaim (_, _, _, _, _, _, _)) hgr
      case measure => simp [intOf]; omega
    · obtain rfl : j = n := by omega
      go_wp2
      go_ret
      refine ⟨rfl, ?_, hgr⟩
      rw [List.drop_of_length_le (by rw [hn'.out]; omega), List.append_nil] at hor
      exact hor

end Go.Proofs.Ytphlnihmfgmecaa
