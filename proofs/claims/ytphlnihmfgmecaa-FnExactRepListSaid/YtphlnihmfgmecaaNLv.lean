/-
  Marks on votes that the call itself made: only their own blocks are written.
  Conditions: none.
-/
import Derived.Test.YtphlnihmfgmecaaNL
namespace Go.Proofs.Ytphlnihmfgmecaa
open Go.RowKit Rg
set_option linter.unusedVariables false
set_option linter.unusedSimpArgs false

/-- Of what there was, only blocks from lo on, below hi, are written. -/
structure Mid (lo hi : Nat) (w w' : World) : Prop where
  os : w'.os = w.os
  tape : w'.tape = w.tape
  output : w'.output = w.output
  size : w.heap.size ≤ w'.heap.size
  block : ∀ b, b < w.heap.size → (b < lo ∨ hi ≤ b) → w'.heap[b]? = w.heap[b]?
section
variable {lo hi lo' hi' : Nat} {a w w' : World}
theorem Mid.refl (lo hi : Nat) (w : World) : Mid lo hi w w := ⟨rfl, rfl, rfl, Nat.le_refl _, fun _ _ _ => rfl⟩
theorem Mid.trans (h : Mid lo hi a w) (k : Mid lo hi w w') : Mid lo hi a w' :=
  ⟨k.os.trans h.os, k.tape.trans h.tape, k.output.trans h.output, Nat.le_trans h.size k.size, fun b hb ho => (k.block b (by have := h.size; omega) ho).trans (h.block b hb ho)⟩
theorem Mid.wider (h : Mid lo hi w w') (hl : lo' ≤ lo) (hh : hi ≤ hi') : Mid lo' hi' w w' := ⟨h.os, h.tape, h.output, h.size, fun b hb ho => h.block b hb (by omega)⟩
theorem Mid.of_only {g : Option Nat} (h : Only w.heap.size g w w') (hg : ∀ k, g = some k → lo ≤ k ∧ k < hi) : Mid lo hi w w' :=
  ⟨h.os, h.tape, h.output, h.size, fun b hb ho => h.block b hb (fun e => by have := hg b e; omega)⟩
theorem Mid.of_below (h : Below w.heap.size w w') : Mid lo hi w w' := ⟨h.os, h.tape, h.output, h.size, fun b hb _ => h.block b hb⟩
theorem Mid.setCell (h : Mid lo hi a w) {p : Addr} (hp : lo ≤ p.block ∧ p.block < hi) (u : Value) : Mid lo hi a (w.setCell p u) :=
  h.trans ⟨rfl, rfl, rfl, by simp [World.setCell], fun b _ ho => Below.heap_setCell w p u b (by omega)⟩
theorem Mid.below (h : Mid lo hi w w') (hl : lo ≤ w.heap.size) : Below lo w w' := ⟨h.os, h.tape, h.output, h.size, fun b hb => h.block b (by omega) (Or.inl hb)⟩
theorem Mid.keepc (h : Mid lo hi w w') {b j : Nat} {v : Value} (ho : b < lo ∨ hi ≤ b) (hc : w.cell? ⟨b, j, none⟩ = some v) : w'.cell? ⟨b, j, none⟩ = some v :=
  (World.cell?_of_block (h.block b (lt_of_cell hc) ho)).trans hc
theorem Mid.keepf (h : Mid lo hi w w') {b j : Nat} {u : Bool} (hb : b < w.heap.size) (ho : b < lo ∨ hi ≤ b) (hc : w.frozen? ⟨b, j, none⟩ = u) : w'.frozen? ⟨b, j, none⟩ = u := by
  have := h.block b hb ho
  simp only [World.frozen?, this] at hc ⊢
  exact hc
end

/-- The cells of the elements from j on are as they were, and may be written. -/
def Still (sz g n j : Nat) (w w' : World) : Prop := ∀ i d, j ≤ i → i < n → d < sz → w'.cell? ⟨g, i * sz + d, none⟩ = w.cell? ⟨g, i * sz + d, none⟩ ∧ w'.frozen? ⟨g, i * sz + d, none⟩ = false

set_option maxHeartbeats 1000000 in
theorem markVoteS_c (A : Option Addr) (n c lo hi : Nat) (k : Int) (ts : List VoteT) (w : World) (hF : FrV w lo hi A n c ts) (hhi : hi ≤ w.heap.size) (hb : szVotes ts ≤ 1048576) (hk0 : 0 ≤ k) (hk1 : k ≤ 1000000000000) :
    Calls Try.prog 45 #[.slice A n c, .int .i64 k] w fun e w' => e = .returned (.int .i64 (k + n + 7 * ((ts.map szVote).sum : Nat))) ∧ Mid lo hi w w' := by
  have hn' := hide hF.len
  obtain ⟨g, ls, rfl, hlg, hgh, hO, hL⟩ := hF
  have hll := hide hL.len
  have hcells : Hid (∀ i (h : i < n), ∃ x : Cs 2, ls[i]? = some x ∧ ∀ d u, x.val[d]? = some u → w.cell? ⟨g, i * 2 + d, none⟩ = some u) := hide (by
    obtain ⟨e0, _, hs⟩ := hO.slAt Cs.len
    subst e0
    intro i h
    refine ⟨ls[i], List.getElem?_eq_getElem h, fun d u hd => ?_⟩
    have := hs.at_ h d u hd
    rw [Nat.zero_add] at this
    exact this)
  have hfr : Hid (∀ d, w.frozen? ⟨g, d, none⟩ = false) := hide hO.frozen
  have hst0 : Still 2 g n 0 w w := fun i d _ _ _ => ⟨rfl, hO.frozen _⟩
  have htot : Hid (szVotes ts = n + (ts.map szVote).sum) := hide (by unfold szVotes; rw [hn'.out])
  have hnb : n ≤ 1048576 := by have := htot.out; omega
  have hcap := hO.cap
  clear hO
  go_enter Try.func45, Try.ntmps45
  go_wp2
  go_loopw [1, 5] (fun kk i wr => ∃ j m : Nat, j ≤ n ∧ i = .int .i64 j ∧ kk = .int .i64 (k + j + 7 * (((ts.take j).map szVote).sum : Nat)) ∧ g < m ∧ FL voteF wr m hi (ls.drop j) (ts.drop j) ∧ Still 2 g n j w wr ∧ Mid lo hi w wr) (fun _ i _ => n - (intOf i).toNat)
  case atStart => exact ⟨0, g + 1, Nat.zero_le _, rfl, by simp, Nat.lt_succ_self _, by simpa using hL, hst0, Mid.refl _ _ _⟩
  case round =>
    obtain ⟨j, m, hj, rfl, rfl, hgm, hl, hst, hmid⟩ := hrel
    have hzr := hmid.size
    by_cases hlt : j < n
    · have hlx : j < ts.length := by have := hn'.out; omega
      have hly : j < ls.length := by have := hll.out; omega
      have hsu := hide (sum_take_succ szVote ts j hlx)
      have hsl := sum_take_le szVote ts j
      have hsl2 := sum_take_le szVote ts (j + 1)
      have hb2 : (ts.map szVote).sum ≤ 1048576 := by have := htot.out; omega
      obtain ⟨x, hx, hxc⟩ := hcells.out j hlt
      have hx' : ls[j] = x := by rw [List.getElem?_eq_getElem hly] at hx; injection hx
      rw [List.drop_eq_getElem_cons hly, List.drop_eq_getElem_cons hlx, hx'] at hl
      obtain ⟨m2, hm2, ⟨A1, n1, c1, hxe, hO1⟩, hl2⟩ := hl
      have hm3 := hl2.le
      have a0 : wr.cell? ⟨g, j * 2, none⟩ = some (.int .i64 ts[j].1) := ((hst j 0 (Nat.le_refl _) hlt (by omega)).1).trans (hxc 0 _ (by rw [hxe]; rfl))
      have a1 : wr.cell? ⟨g, j * 2 + 1, none⟩ = some (.slice A1 n1 c1) := ((hst j 1 (Nat.le_refl _) hlt (by omega)).1).trans (hxc 1 _ (by rw [hxe]; rfl))
      have f0 : wr.frozen? ⟨g, j * 2, none⟩ = false := (hst j 0 (Nat.le_refl _) hlt (by omega)).2
      have hgw : g < wr.heap.size := lt_of_cell a0
      have hkk : 0 ≤ k + (j : Int) + 7 * (((ts.take j).map szVote).sum : Nat) := by omega
      have hkk2 : k + (j : Int) + 7 * (((ts.take j).map szVote).sum : Nat) ≤ 1000010000000 := by omega
      generalize hkv : k + (j : Int) + 7 * (((ts.take j).map szVote).sum : Nat) = kv at *
      have hkv' := hide hkv
      clear hkv hx hx' hxc hxe
      have hn1 := hide hO1.1.lenEq
      have hn1b : n1 ≤ 1048576 := by have h1 := sum_at szVote ts j hlx; have h2 := hn1.out; unfold szVote at h1 hb2; omega
      go_wp2_with fail
      generalize hw1 : wr.setCell ⟨g, j * 2, none⟩ (.int .i64 kv) = w1 at *
      have hA : Above m wr w1 := by rw [← hw1]; exact (Above.refl _ _).setCell hgm _
      have hM1 : Mid lo hi w w1 := by rw [← hw1]; exact hmid.setCell ⟨hlg, hgh⟩ _
      have hM2 : Mid g (g + 1) wr w1 := by rw [← hw1]; exact (Mid.refl g (g + 1) wr).setCell (p := ⟨g, j * 2, none⟩) ⟨Nat.le_refl _, Nat.lt_succ_self _⟩ _
      have hst1 : Still 2 g n (j + 1) w w1 := fun i d hi hin hd => by
        obtain ⟨q1, q2⟩ := hst i d (by omega) hin hd
        have hne : i * 2 + d ≠ j * 2 := by omega
        rw [← hw1]
        refine ⟨Eq.trans ?_ q1, Eq.trans ?_ q2⟩
        · exact World.cell?_setCell_other _ _ _ _ (fun h => hne (by injection h with h1 h2; exact h2.symm))
        · exact World.frozen?_setCell _ _ _ _
      have hO2 := hO1.above hA (Nat.le_refl _)
      have hl3 := hl2.above voteF_kept hA hm2
      clear hA hO1 hl2 hst hw1
      refine (markClaimS_c A1 n1 c1 m (kv + 1) ts[j].2 w1 hn1.out hn1b (by omega) (by omega) hO2.1).mono ?_
      rintro e w2 ⟨rfl, _, hon⟩
      have hbk : ∀ b, (Value.slice A1 n1 c1).ownBlock = some b → m ≤ b ∧ b < m2 := fun b hb => ⟨(hO2.1.lt b hb).1, hO2.2 b hb⟩
      have hM3 : Mid m m2 w1 w2 := Mid.of_only hon hbk
      have hst2 : Still 2 g n (j + 1) w w2 := fun i d hi hin hd => by
        obtain ⟨q1, q2⟩ := hst1 i d hi hin hd
        have hgw1 : g < w1.heap.size := Nat.lt_of_lt_of_le hgw hM2.size
        exact ⟨(World.cell?_of_block (hM3.block g hgw1 (by omega))).trans q1, hM3.keepf hgw1 (by omega) q2⟩
      have hl4 := hl3.keep voteF_kept (fun b hb hb2 => hM3.block b (by have := hM1.size; omega) (by omega))
      have hM4 := hM1.trans (hM3.wider (by omega) hm3)
      clear hon hM3 hst1 hl3 hO2 hbk
      go_wp2
      go_roundw
      case rel => exact ⟨j + 1, m2, by omega, by go_num, by
        have h1 := hsu.out; have h2 := hkv'.out; have h3 := hn1.out; unfold szVote at h1 h2 ⊢; rw [h1]; go_num, by omega, hl4, hst2, hM4⟩
      case measure => simp [intOf]; omega
    · obtain rfl : j = n := by omega
      go_wp2
      go_ret
      have hfin : (ts.take j).map szVote = ts.map szVote := by rw [List.take_of_length_le (by rw [hn'.out]; omega)]
      exact ⟨by rw [← hfin]; rfl, hmid⟩
end Go.Proofs.Ytphlnihmfgmecaa
