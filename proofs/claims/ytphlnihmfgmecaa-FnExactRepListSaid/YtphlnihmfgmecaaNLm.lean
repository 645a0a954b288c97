/-
  Marks on letters that the call itself made: only their own blocks are written. (Printed by gen_nlm.py.)
  Conditions: none.
-/
import Derived.Test.YtphlnihmfgmecaaNLv
namespace Go.Proofs.Ytphlnihmfgmecaa
open Go.RowKit Rg
set_option linter.unusedVariables false
set_option linter.unusedSimpArgs false

/-- How many marks a letter takes. -/
def mkMsg (m : MsgT) : Nat := 9 + 7 * m.2.2.2.2.2.1.length + (m.2.2.2.2.2.2.length + 7 * (m.2.2.2.2.2.2.map szVote).sum)
theorem mkMsg_le (m : MsgT) : mkMsg m ≤ 9 + 7 * szMsg m := by unfold mkMsg szMsg szVotes; omega
theorem mkMsgs_le : ∀ ts : List MsgT, (ts.map mkMsg).sum ≤ 9 * ts.length + 7 * (ts.map szMsg).sum
  | [] => by simp
  | t :: ts => by
    have h1 := mkMsg_le t
    have h2 := mkMsgs_le ts
    simp only [List.map_cons, List.sum_cons, List.length_cons]
    omega
theorem Mid.drewN_ {lo hi : Nat} {a w : World} (h : Mid lo hi a w) : Mid lo hi a w.drew := ⟨h.os, h.tape, h.output, h.size, h.block⟩

set_option maxRecDepth 100000 in
set_option maxHeartbeats 4000000 in
theorem markMsgS_c (A : Option Addr) (n c lo hi : Nat) (k : Int) (ts : List MsgT) (w : World) (hF : FrM w lo hi A n c ts) (hhi : hi ≤ w.heap.size) (hb : szMsgs ts ≤ 1048576) (hk0 : 0 ≤ k) (hk1 : k ≤ 900000000000) :
    Calls Try.prog 131 #[.slice A n c, .int .i64 k] w fun e w' => e = .returned (.int .i64 (k + ((ts.map mkMsg).sum : Nat))) ∧ Mid lo hi w w' := by
  have hn' := hide hF.len
  obtain ⟨g, ls, rfl, hlg, hgh, hO, hL⟩ := hF
  have hll := hide hL.len
  have hcells : Hid (∀ i (h : i < n), ∃ x : Cs 11, ls[i]? = some x ∧ ∀ d u, x.val[d]? = some u → w.cell? ⟨g, i * 11 + d, none⟩ = some u) := hide (by
    obtain ⟨e0, _, hs⟩ := hO.slAt Cs.len
    subst e0
    intro i h
    refine ⟨ls[i], List.getElem?_eq_getElem h, fun d u hd => ?_⟩
    have := hs.at_ h d u hd
    rw [Nat.zero_add] at this
    exact this)
  have hst0 : Still 11 g n 0 w w := fun i d _ _ _ => ⟨rfl, hO.frozen _⟩
  have hmk := mkMsgs_le ts
  have htot : Hid (szMsgs ts = n + (ts.map szMsg).sum) := hide (by unfold szMsgs; rw [hn'.out])
  have hnb : n ≤ 1048576 := by have := htot.out; omega
  have hsb : (ts.map szMsg).sum ≤ 1048576 := by have := htot.out; omega
  have hmb : (ts.map mkMsg).sum ≤ 20000000 := by have := hn'.out; omega
  clear hmk
  have hcap := hO.cap
  clear hO
  go_enter Try.func131, Try.ntmps131
  go_wp2
  go_loopw [1, 5] (fun kk i wr => ∃ j m : Nat, j ≤ n ∧ i = .int .i64 j ∧ kk = .int .i64 (k + (((ts.take j).map mkMsg).sum : Nat)) ∧ g < m ∧ FL msgF wr m hi (ls.drop j) (ts.drop j) ∧ Still 11 g n j w wr ∧ Mid lo hi w wr) (fun _ i _ => n - (intOf i).toNat)
  case atStart => exact ⟨0, g + 1, Nat.zero_le _, rfl, by simp, Nat.lt_succ_self _, by simpa using hL, hst0, Mid.refl _ _ _⟩
  case round =>
    obtain ⟨j, m, hj, rfl, rfl, hgm, hl, hst, hmid⟩ := hrel
    have hzr := hmid.size
    by_cases hlt : j < n
    · have hlx : j < ts.length := by have := hn'.out; omega
      have hly : j < ls.length := by have := hll.out; omega
      have hsu := hide (sum_take_succ mkMsg ts j hlx)
      have hsl := sum_take_le mkMsg ts j
      obtain ⟨x, hx, hxc⟩ := hcells.out j hlt
      have hx' : ls[j] = x := by rw [List.getElem?_eq_getElem hly] at hx; injection hx
      rw [List.drop_eq_getElem_cons hly, List.drop_eq_getElem_cons hlx, hx'] at hl
      obtain ⟨m2, hm2, ⟨mid, A1, n1, c1, B1, p1, d1, hlm, hmm, hxe, hO1, hV1⟩, hl2⟩ := hl
      have hm3 := hl2.le
      have a0 : wr.cell? ⟨g, j * 11, none⟩ = some (.int .i64 ts[j].1) := ((hst j 0 (Nat.le_refl _) hlt (by omega)).1).trans (hxc 0 _ (by rw [hxe]; rfl))
      have f0 : wr.frozen? ⟨g, j * 11, none⟩ = false := (hst j 0 (Nat.le_refl _) hlt (by omega)).2
      have a1 : wr.cell? ⟨g, j * 11 + 1, none⟩ = some (.int .i64 ts[j].2.1) := ((hst j 1 (Nat.le_refl _) hlt (by omega)).1).trans (hxc 1 _ (by rw [hxe]; rfl))
      have f1 : wr.frozen? ⟨g, j * 11 + 1, none⟩ = false := (hst j 1 (Nat.le_refl _) hlt (by omega)).2
      have a2 : wr.cell? ⟨g, j * 11 + 2, none⟩ = some (.int .i64 ts[j].2.2.1) := ((hst j 2 (Nat.le_refl _) hlt (by omega)).1).trans (hxc 2 _ (by rw [hxe]; rfl))
      have f2 : wr.frozen? ⟨g, j * 11 + 2, none⟩ = false := (hst j 2 (Nat.le_refl _) hlt (by omega)).2
      have a3 : wr.cell? ⟨g, j * 11 + 3, none⟩ = some (.int .i64 ts[j].2.2.2.1) := ((hst j 3 (Nat.le_refl _) hlt (by omega)).1).trans (hxc 3 _ (by rw [hxe]; rfl))
      have f3 : wr.frozen? ⟨g, j * 11 + 3, none⟩ = false := (hst j 3 (Nat.le_refl _) hlt (by omega)).2
      have a4 : wr.cell? ⟨g, j * 11 + 4, none⟩ = some (.int .i64 ts[j].2.2.2.2.1.1) := ((hst j 4 (Nat.le_refl _) hlt (by omega)).1).trans (hxc 4 _ (by rw [hxe]; rfl))
      have f4 : wr.frozen? ⟨g, j * 11 + 4, none⟩ = false := (hst j 4 (Nat.le_refl _) hlt (by omega)).2
      have a5 : wr.cell? ⟨g, j * 11 + 5, none⟩ = some (.int .i64 ts[j].2.2.2.2.1.2.1) := ((hst j 5 (Nat.le_refl _) hlt (by omega)).1).trans (hxc 5 _ (by rw [hxe]; rfl))
      have f5 : wr.frozen? ⟨g, j * 11 + 5, none⟩ = false := (hst j 5 (Nat.le_refl _) hlt (by omega)).2
      have a6 : wr.cell? ⟨g, j * 11 + 6, none⟩ = some (.int .i64 ts[j].2.2.2.2.1.2.2.1) := ((hst j 6 (Nat.le_refl _) hlt (by omega)).1).trans (hxc 6 _ (by rw [hxe]; rfl))
      have f6 : wr.frozen? ⟨g, j * 11 + 6, none⟩ = false := (hst j 6 (Nat.le_refl _) hlt (by omega)).2
      have a7 : wr.cell? ⟨g, j * 11 + 7, none⟩ = some (.int .i64 ts[j].2.2.2.2.1.2.2.2.1) := ((hst j 7 (Nat.le_refl _) hlt (by omega)).1).trans (hxc 7 _ (by rw [hxe]; rfl))
      have f7 : wr.frozen? ⟨g, j * 11 + 7, none⟩ = false := (hst j 7 (Nat.le_refl _) hlt (by omega)).2
      have a8 : wr.cell? ⟨g, j * 11 + 8, none⟩ = some (.int .i64 ts[j].2.2.2.2.1.2.2.2.2) := ((hst j 8 (Nat.le_refl _) hlt (by omega)).1).trans (hxc 8 _ (by rw [hxe]; rfl))
      have f8 : wr.frozen? ⟨g, j * 11 + 8, none⟩ = false := (hst j 8 (Nat.le_refl _) hlt (by omega)).2
      have a9 : wr.cell? ⟨g, j * 11 + 9, none⟩ = some (.slice A1 n1 c1) := ((hst j 9 (Nat.le_refl _) hlt (by omega)).1).trans (hxc 9 _ (by rw [hxe]; rfl))
      have a10 : wr.cell? ⟨g, j * 11 + 10, none⟩ = some (.slice B1 p1 d1) := ((hst j 10 (Nat.le_refl _) hlt (by omega)).1).trans (hxc 10 _ (by rw [hxe]; rfl))
      have hgw : g < wr.heap.size := lt_of_cell a0
      obtain ⟨kv, hkv⟩ : ∃ kv : Int, k + (((ts.take j).map mkMsg).sum : Nat) = kv := ⟨_, rfl⟩
      have hkk : 0 ≤ kv := by omega
      have hkk2 : kv ≤ 900020000000 := by omega
      rw [hkv]
      have hkv' := hide hkv
      clear hkv hx hx' hxc hxe hsl
      have hn1 := hide hO1.1.lenEq
      have hsz1 := hide (sum_at szMsg ts j hlx)
      have hn1b : n1 ≤ 1048576 := by have h1 := hsz1.out; have h2 := hn1.out; unfold szMsg at h1 hsb; omega
      have hvb : szVotes ts[j].2.2.2.2.2.2 ≤ 1048576 := by have h1 := hsz1.out; unfold szMsg at h1 hsb; omega
      have hpn := hide hV1.len
      go_wp2_with fail
      generalize hw1 : (World.setCell _ _ _) = w1 at *
      have hA : Above m wr w1 := by rw [← hw1]; repeat (first | (with_reducible exact Above.refl _ _) | ((with_reducible refine Above.setCell ?_ ?_ _); rotate_left; (focus (exact hgm))))
      have hM1 : Mid lo hi w w1 := by rw [← hw1]; repeat (first | (with_reducible exact hmid) | ((with_reducible refine Mid.setCell ?_ ?_ _); rotate_left; (focus (exact ⟨hlg, hgh⟩))))
      have hcs : ∀ i d, j ≤ i → (i = j → 9 ≤ d) → d < 11 → w1.cell? ⟨g, i * 11 + d, none⟩ = wr.cell? ⟨g, i * 11 + d, none⟩ ∧ w1.frozen? ⟨g, i * 11 + d, none⟩ = wr.frozen? ⟨g, i * 11 + d, none⟩ := fun i d hi h9 hd => by
        have hor : i = j ∧ 9 ≤ d ∨ j < i := by
          by_cases hij : i = j
          · exact Or.inl ⟨hij, h9 hij⟩
          · exact Or.inr (by omega)
        have hh : ∀ (W : World) (o : Nat) (v : Value), i * 11 + d ≠ o → (W.setCell ⟨g, o, none⟩ v).cell? ⟨g, i * 11 + d, none⟩ = W.cell? ⟨g, i * 11 + d, none⟩ :=
          fun W o v h => World.cell?_setCell_other _ _ _ _ (fun e => h (by injection e with _ e2; exact e2.symm))
        rw [← hw1]
        constructor
        · rw [hh, hh, hh, hh, hh, hh, hh, hh, hh]
          all_goals (clear hh hw1; omega)
        · simp only [World.frozen?_setCell]
      have hgw1 : g < w1.heap.size := by have : w1.heap.size = wr.heap.size := (by rw [← hw1]; simp); omega
      have b10 : w1.cell? ⟨g, j * 11 + 10, none⟩ = some (.slice B1 p1 d1) := ((hcs j 10 (Nat.le_refl _) (fun _ => by omega) (by omega)).1).trans a10
      have hst1 : Still 11 g n (j + 1) w w1 := fun i d hi hin hd => by
        obtain ⟨q1, q2⟩ := hst i d (by omega) hin hd
        obtain ⟨r1, r2⟩ := hcs i d (by omega) (fun h => by omega) hd
        exact ⟨r1.trans q1, r2.trans q2⟩
      have hO2 := hO1.above hA (Nat.le_refl _)
      have hV2 := Fr.above voteF_kept hV1 hA hlm
      have hl3 := hl2.above msgF_kept hA hm2
      have hz1 := hM1.size
      clear hA hO1 hV1 hl2 hst hw1 hcs
      refine (markClaimS_c A1 n1 c1 m (kv + 1 + 1 + 1 + 1 + 1 + 1 + 1 + 1 + 1) ts[j].2.2.2.2.2.1 w1 hn1.out hn1b (by omega) (by omega) hO2.1).mono ?_
      rintro e w2 ⟨rfl, _, hon⟩
      have hM3 : Mid m mid w1 w2 := Mid.of_only hon (fun b hb => ⟨(hO2.1.lt b hb).1, hO2.2 b hb⟩)
      have hst2 : Still 11 g n (j + 1) w w2 := fun i d hi hin hd => by
        obtain ⟨q1, q2⟩ := hst1 i d hi hin hd
        exact ⟨(World.cell?_of_block (hM3.block g hgw1 (by omega))).trans q1, hM3.keepf hgw1 (by omega) q2⟩
      have b10 := hM3.keepc (by omega) b10
      have hl4 := hl3.keep msgF_kept (fun b hb hb2 => hM3.block b (by omega) (by omega))
      have hV3 := Fr.keep voteF_kept hV2 (fun b hb hb2 => hM3.block b (by omega) (by omega))
      have hM4 := hM1.trans (hM3.wider (by omega) (by omega))
      have hz2 := hM3.size
      have hgw2 : g < w2.heap.size := by omega
      clear hon hM3 hst1 hl3 hO2 hV2 hM1
      go_wp2_with fail
      refine (markVoteS_c B1 p1 d1 mid m2 (kv + 1 + 1 + 1 + 1 + 1 + 1 + 1 + 1 + 1 + 7 * (n1 : Int)) ts[j].2.2.2.2.2.2 w2 hV3 (by omega) hvb (by omega) (by omega)).mono ?_
      rintro e w3 ⟨rfl, hM5⟩
      have hst3 : Still 11 g n (j + 1) w w3 := fun i d hi hin hd => by
        obtain ⟨q1, q2⟩ := hst2 i d hi hin hd
        exact ⟨(World.cell?_of_block (hM5.block g hgw2 (by omega))).trans q1, hM5.keepf hgw2 (by omega) q2⟩
      have hl5 := hl4.keep msgF_kept (fun b hb hb2 => hM5.block b (by omega) (by omega))
      have hM6 := hM4.trans (hM5.wider (by omega) hm3)
      have hfin : Hid (kv + 1 + 1 + 1 + 1 + 1 + 1 + 1 + 1 + 1 + 7 * (n1 : Int) + (p1 : Int) + 7 * ((ts[j].2.2.2.2.2.2.map szVote).sum : Nat) = k + (((ts.take (j + 1)).map mkMsg).sum : Nat)) := hide (by
        have h1 := hsu.out; have h2 := hkv'.out; have h3 := hn1.out; have h4 := hpn.out
        rw [h1]; unfold mkMsg at h2 ⊢; rw [← h2, h3, h4]; push_cast; omega)
      obtain ⟨kw, hkw⟩ : ∃ kw : Int, kv + 1 + 1 + 1 + 1 + 1 + 1 + 1 + 1 + 1 + 7 * (n1 : Int) + (p1 : Int) + 7 * ((ts[j].2.2.2.2.2.2.map szVote).sum : Nat) = kw := ⟨_, rfl⟩
      rw [hkw] at hfin
      rw [hkw]
      clear hM5 hst2 hl4 hV3 hM4 hkw
      go_wp2
      go_roundw
      case rel => exact ⟨j + 1, m2, by omega, by go_num, by rw [hfin.out], by omega, hl5, hst3, hM6⟩
      case measure => simp [intOf]; omega
    · obtain rfl : j = n := by omega
      go_wp2
      go_ret
      have hfin : (ts.take j).map mkMsg = ts.map mkMsg := by rw [List.take_of_length_le (by rw [hn'.out]; omega)]
      exact ⟨by rw [← hfin]; rfl, hmid⟩
end Go.Proofs.Ytphlnihmfgmecaa
