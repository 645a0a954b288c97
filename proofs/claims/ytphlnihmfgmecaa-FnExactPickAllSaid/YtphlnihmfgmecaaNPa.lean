/-
  'FnExactPickAll' returns true, for every argument: both packages answer alike, share no memory with their arguments, and leave these alone. (Printed by gen_npa.py.)
  Conditions: none.
-/
import Derived.Test.YtphlnihmfgmecaaNW
import Derived.Test.YtphlnihmfgmecaaNLv
import Derived.Test.YtphlnihmfgmecaaNPq
namespace Go.Proofs.Ytphlnihmfgmecaa
open Go.RowKit Rg
set_option linter.unusedVariables false
set_option linter.unusedSimpArgs false

set_option maxRecDepth 100000 in
set_option maxHeartbeats 4000000 in
theorem lawExactPickAll (A : Option Addr) (n c : Nat) (ts : List VoteT) (w : World) (hs : RdN 2 voteR w 0 w.heap.size A n c ts) :
    Calls Try.prog 8 #[.slice A n c] w fun e w' => e = .returned (.bool true) ∧ Below w.heap.size w w' := by
  have hn' := hide hs.len
  have ks := hide (fun W (h : Below w.heap.size w W) => szVoteS_c A n c 0 w.heap.size 1048576 W (hs.below vote_kept h (Nat.le_refl _)) h.size (by omega))
  by_cases hz : szVotes ts ≤ 1048576
  · have y := hide (szO_yes hz)
    have hzp : Hid (szVotes ts = n + (ts.map szVote).sum) := hide (by unfold szVotes; rw [hn'.out])
    have hzn : n + (ts.map szVote).sum ≤ 1048576 := by have := hzp.out; omega
    have kt := hide (fun W (h : Below w.heap.size w W) => toVoteS_c (hs.below vote_kept h (Nat.le_refl _)) hz h.size)
    obtain ⟨xs, hxs, hxl⟩ : ∃ xs : List ReqT, (if okVs ts then picksL ts else []) = xs ∧ xs.length ≤ 1048576 := ⟨_, rfl, by
      split
      · rename_i h
        have := topOf_okVs h
        simp only [picksL, List.length_map, List.length_range]
        omega
      · simp⟩
    have kspec := hide (fun (A1 : Option Addr) (n1 c1 lo hi : Nat) W (h : RdN 2 voteR W lo hi A1 n1 c1 ts) (hh : hi ≤ W.heap.size) => specPickAll_c A1 n1 c1 lo hi ts W h hh)
    have kimpl := hide (fun (A1 : Option Addr) (n1 c1 lo hi : Nat) W (h : RdN 2 voteR W lo hi A1 n1 c1 ts) (hh : hi ≤ W.heap.size) => PickAll_c A1 n1 c1 lo hi ts W h hh)
    simp only [hxs] at kspec kimpl
    clear hxs
    have d1 : decide (((1048576 - szVotes ts : Nat) : Int) < 0) = false := by simp
    go_enter Try.func8, Try.ntmps8
    go_wp2_with fail
    refine (ks.out _ (Below.refl _ _)).mono ?_
    rintro e u0 ⟨rfl, hB0⟩
    rw [y.out]
    have hz0 := hB0.size
    go_wp2_with fail
    refine (kt.out _ hB0).mono ?_
    rintro e u1 ⟨A1, n1, c1, rfl, fa, hb1⟩
    have hB1 := hB0.trans (hb1.mono hz0)
    have hz1 := hb1.size
    go_wp2_with fail
    refine (kspec.out A1 n1 c1 _ _ u1 (FrV.rd fa) (Nat.le_refl _)).mono ?_
    rintro e u2 ⟨vw, rfl, ow, hb2⟩
    obtain ⟨Aw, cw, rfl, _, _, _⟩ := ow.form
    have rw2 := ow.rdn encReq_len
    have hB2 := hB1.trans (hb2.mono hB1.size)
    have hz2 := hb2.size
    clear ow fa
    go_wp2_with fail
    refine (kt.out _ hB2).mono ?_
    rintro e u3 ⟨A3, n3, c3, rfl, fx, hb3⟩
    have hB3 := hB2.trans (hb3.mono hB2.size)
    have hz3 := hb3.size
    have rw3 := rw2.below (flat_kept _) hb3 (Nat.le_refl _)
    clear rw2
    go_wp2_with fail
    refine (kimpl.out A3 n3 c3 _ _ u3 (FrV.rd fx) (Nat.le_refl _)).mono ?_
    rintro e u4 ⟨vg, rfl, og, hb4⟩
    obtain ⟨Ag, cg, rfl, _, _, _⟩ := og.form
    have hB4 := hB3.trans (hb4.mono hB3.size)
    have hz4 := hb4.size
    have rw4 := rw3.below (flat_kept _) hb4 (by omega)
    have fx4 := Fr.below voteF_kept fx hb4 (Nat.le_refl _)
    have gbk : Hid (∀ b, (Value.slice Ag xs.length cg).ownBlock = some b → u3.heap.size ≤ b ∧ b < u4.heap.size) := hide (fun b hb => og.lt b hb)
    clear rw3 fx
    go_wp2_with fail
    refine (eqReqS_same (og.rdn encReq_len) rw4 (Nat.le_refl _) (by omega)).mono ?_
    rintro e u5 ⟨rfl, hb5⟩
    have hB5 := hB4.trans (hb5.mono hB4.size)
    have hz5 := hb5.size
    have rw5 := rw4.below (flat_kept _) hb5 (by omega)
    have fx5 := Fr.below voteF_kept fx4 hb5 (by omega)
    have og5 := og.below hb5 (Nat.le_refl _)
    clear rw4 fx4 og
    go_wp2_with fail
    refine (kt.out _ hB5).mono ?_
    rintro e u6 ⟨A6, n6, c6, rfl, fy, hb6⟩
    have hB6 := hB5.trans (hb6.mono hB5.size)
    have hz6 := hb6.size
    have rw6 := rw5.below (flat_kept _) hb6 (by omega)
    have fx6 := Fr.below voteF_kept fx5 hb6 (by omega)
    have og6 := og5.below hb6 (Nat.le_refl _)
    clear rw5 fx5 og5
    go_wp2_with fail
    refine (eqVoteS_same (FrV.rd fx6) (FrV.rd fy) (by omega) (Nat.le_refl _)).mono ?_
    rintro e u7 ⟨rfl, hb7⟩
    have hB7 := hB6.trans (hb7.mono hB6.size)
    have hz7 := hb7.size
    have rw7 := rw6.below (flat_kept _) hb7 (by omega)
    have fx7 := Fr.below voteF_kept fx6 hb7 (by omega)
    have og7 := og6.below hb7 (Nat.le_refl _)
    have hn3 : Hid (n3 = n) := hide (by rw [Fr.len fx7, hn'.out])
    clear rw6 fx6 og6 fy
    go_wp2_with fail
    refine (markVoteS_c A3 n3 c3 _ _ 1 ts u7 fx7 (by omega) hz (by omega) (by omega)).mono ?_
    rintro e u8 ⟨rfl, hm8⟩
    have hB8 := hB7.trans ((hm8.below (by omega)).mono (by omega))
    have hz8 := hm8.size
    have rw8 := rw7.keep (flat_kept _) (fun b _ h2 => hm8.block b (by omega) (by omega))
    have og8 := og7.keep (fun b hb => hm8.block b (by have := (gbk.out b hb).2; omega) (by have := (gbk.out b hb).1; omega))
    clear rw7 fx7 og7
    have d2 : decide (1 + (n3 : Int) + 7 * ((ts.map szVote).sum : Nat) < 0) = false := by simp; omega
    generalize (1 + (n3 : Int) + 7 * ((ts.map szVote).sum : Nat)) = kk at *
    go_wp2_with fail
    refine (eqReqS_same (og8.rdn encReq_len) rw8 (Nat.le_refl _) (by omega)).mono ?_
    rintro e u9 ⟨rfl, hb9⟩
    have hB9 := hB8.trans (hb9.mono hB8.size)
    have hz9 := hb9.size
    have rw9 := rw8.below (flat_kept _) hb9 (by omega)
    have og9 := og8.below hb9 (Nat.le_refl _)
    clear rw8 og8
    go_wp2_with fail
    refine (markReqS_c Ag xs.length cg _ 1 xs u9 rfl hxl (by omega) (by omega) og9).mono ?_
    rintro e u10 ⟨rfl, om, ho10⟩
    have hm10 : Mid u3.heap.size u4.heap.size u9 u10 := Mid.of_only ho10 gbk.out
    have hB10 := hB9.trans ((hm10.below (by omega)).mono (by omega))
    have hz10 := hm10.size
    have rw10 := rw9.keep (flat_kept _) (fun b _ h2 => hm10.block b (by omega) (by omega))
    clear rw9 og9 ho10
    go_wp2_with fail
    refine (heldReqS_c Ag xs.length cg u3.heap.size u10.heap.size 1 u10 hxl (by omega) (by omega) (om.slAt encReq_len).2.2).mono ?_
    rintro e u10' ⟨rfl, hq⟩
    subst hq
    have d3 : decide (1 + 5 * (xs.length : Int) < 0) = false := by simp; omega
    have d4 : (1 + 5 * (xs.length : Int) != 1 + 5 * (xs.length : Int)) = false := by simp
    obtain ⟨kq, hkq⟩ : ∃ kq : Int, 1 + 5 * (xs.length : Int) = kq := ⟨_, rfl⟩
    rw [hkq] at d3 d4
    have hkq' := hide hkq
    rw [hkq]
    clear hkq
    go_wp2_with fail
    refine (kt.out _ hB10).mono ?_
    rintro e u11 ⟨A11, n11, c11, rfl, fz, hb11⟩
    have hB11 := hB10.trans (hb11.mono hB10.size)
    have hz11 := hb11.size
    have rw11 := rw10.below (flat_kept _) hb11 (by omega)
    have om11 := om.below hb11 (Nat.le_refl _)
    clear rw10 om
    go_wp2_with fail
    refine (kimpl.out A11 n11 c11 _ _ u11 (FrV.rd fz) (Nat.le_refl _)).mono ?_
    rintro e u12 ⟨vh, rfl, oh, hb12⟩
    obtain ⟨Ah, ch, rfl, _, _, _⟩ := oh.form
    have hB12 := hB11.trans (hb12.mono hB11.size)
    have hz12 := hb12.size
    have rw12 := rw11.below (flat_kept _) hb12 (by omega)
    have om12 := om11.below hb12 (Nat.le_refl _)
    clear rw11 om11 fz
    go_wp2_with fail
    refine (eqReqS_same (oh.rdn encReq_len) rw12 (Nat.le_refl _) (by omega)).mono ?_
    rintro e u13 ⟨rfl, hb13⟩
    have hB13 := hB12.trans (hb13.mono hB12.size)
    have om13 := om12.below hb13 (Nat.le_refl _)
    clear rw12 om12 oh
    go_wp2_with fail
    refine (heldReqS_c Ag xs.length cg u3.heap.size u13.heap.size 1 u13 hxl (by omega) (by omega) (om13.slAt encReq_len).2.2).mono ?_
    rintro e u14 ⟨rfl, hq⟩
    subst hq
    have d5 : decide (1 + 5 * (xs.length : Int) < 0) = false := by simp; omega
    rw [hkq'.out] at d5
    rw [hkq'.out]
    go_wp2
    go_ret
    exact ⟨rfl, hB13⟩
  · have y := hide (szO_no (show 1048576 < szVotes ts by omega))
    go_enter Try.func8, Try.ntmps8
    go_wp2_with fail
    refine (ks.out _ (Below.refl _ _)).mono ?_
    rintro e u0 ⟨rfl, hb0⟩
    rw [y.out]
    go_wp2
    go_ret
    exact ⟨rfl, hb0⟩
end Go.Proofs.Ytphlnihmfgmecaa
