/-
  The text of a letter in both packages: 'MsgPut', 'l10Put'. (Printed by gen_md.py.)
  Conditions: 'MsgPut' of the program reads the library's table of powers of ten, and the program's words.
-/
import Derived.Test.YtocifmnkohgfjaaDoorMC
import Derived.Test.YtocifmnkohgfjaaDoorNX
namespace Go.Proofs.YtocifmnkohgfjaaDoor
open Go.RowKit Rg
open Go.Lib hiding intOf
set_option linter.unusedVariables false
set_option linter.unusedSimpArgs false


def putMsg (t : MsgT) : List UInt8 := if okMsg t then putM t else []
def headB (m : MsgT) : List UInt8 := kindW m.1 ++ 32 :: (itoa m.2.1 ++ 32 :: (itoa m.2.2.1 ++ 32 :: (itoa m.2.2.2.1 ++ 32 :: (putR m.2.2.2.2.1 ++ 10 :: putCs m.2.2.2.2.2.1))))
theorem putM_head (m : MsgT) : putM m = headB m ++ putVs m.2.2.2.2.2.2 := by
  unfold putM headB
  simp
theorem impl_head (ki fr vi sq : Int) (r : ReqV) (cs : List ClaimT) (vs : List VoteT) : (((asS (rowB (kindW ki) [fr, vi, sq]) ++ asS [32]) ++ asS (putR r)) ++ asS [10]) ++ asS (putCs cs) = asS (headB (ki, fr, vi, sq, r, cs, vs)) := by
  simp only [asS_app]
  unfold headB rowB
  simp
theorem spec_head (ki fr vi sq : Int) (r : ReqV) (cs : List ClaimT) (vs : List VoteT) : ((((((((((asS (kindW ki) ++ asS [32]) ++ asS (itoa fr)) ++ asS [32]) ++ asS (itoa vi)) ++ asS [32]) ++ asS (itoa sq)) ++ asS [32]) ++ asS (putR r)) ++ asS [10]) ++ asS (putCs cs)) = asS (headB (ki, fr, vi, sq, r, cs, vs)) := by
  simp only [asS_app]
  unfold headB
  simp
theorem impl_vote (O : List UInt8) (v : VoteT) : asS O ++ ((asS (rowB [118, 111, 116, 101] [v.1]) ++ asS [10]) ++ asS (putCs v.2)) = asS (O ++ putV v) := by
  simp only [asS_app]
  unfold putV rowB
  simp
theorem spec_vote (O : List UInt8) (v : VoteT) : (((asS O ++ asS [118, 111, 116, 101, 32]) ++ asS (itoa v.1)) ++ asS [10]) ++ asS (putCs v.2) = asS (O ++ putV v) := by
  simp only [asS_app]
  unfold putV
  simp
theorem szVotes_take (vs : List VoteT) (k : Nat) : szVotes (vs.take k) ≤ szVotes vs := by
  unfold szVotes
  have h1 := sum_take_le szVote vs k
  have h2 : (vs.take k).length ≤ vs.length := by rw [List.length_take]; omega
  rw [List.map_take] at *
  omega
theorem szVotes_at (vs : List VoteT) (k : Nat) (hk : k < vs.length) : vs[k].2.length ≤ szVotes vs := by
  unfold szVotes
  have h1 := sum_at szVote vs k hk
  unfold szVote at h1
  unfold szVote
  omega
theorem headB_len {m : MsgT} (h : MsgFit m) : (headB m).length ≤ 300 + 160 * m.2.2.2.2.2.1.length := by
  obtain ⟨h1, h2, h3, h4, h5, h6⟩ := h
  have i1 := itoa_small (n := m.2.1) (by omega) (by omega)
  have i2 := itoa_small (n := m.2.2.1) (by omega) (by omega)
  have i3 := itoa_small (n := m.2.2.2.1) (by omega) (by omega)
  have i4 := kindW_len m.1
  have i5 := putR_len m.2.2.2.2.1
  have i6 := putCs_len h5
  unfold headB
  simp only [List.length_append, List.length_cons]
  omega
theorem out_len {m : MsgT} (h : MsgFit m) (hz : szMsg m ≤ 1048576) (k : Nat) : (asS (headB m ++ putVs (m.2.2.2.2.2.2.take k))).size ≤ 400000000 := by
  have h1 := headB_len h
  have h2 := putVs_len (vs := m.2.2.2.2.2.2.take k) (fun v hv => h.vs v (List.mem_of_mem_take hv))
  have h3 := szVotes_take m.2.2.2.2.2.2 k
  unfold szMsg at hz
  rw [asS_size]
  simp only [List.length_append]
  omega
set_option maxRecDepth 100000 in
set_option maxHeartbeats 4000000 in
theorem MsgPut_c (t : MsgT) (A B : Option Addr) (n c p d : Nat) (lo hi : Nat) (w : World) (h0 : RdN 7 clR w lo hi A n c t.2.2.2.2.2.1) (h1 : RdN 2 voteR w lo hi B p d t.2.2.2.2.2.2) (hhi : hi ≤ w.heap.size) (hz : szMsg t ≤ 1048576) (ht : Tab w) (hw : WordsAt w) (hk : KindsAt w) :
    Calls Tryd.prog 7 #[.agg #[.int .i64 t.1, .int .i64 t.2.1, .int .i64 t.2.2.1, .int .i64 t.2.2.2.1, .int .i64 t.2.2.2.2.1.1, .int .i64 t.2.2.2.2.1.2.1, .int .i64 t.2.2.2.2.1.2.2.1, .int .i64 t.2.2.2.2.1.2.2.2.1, .int .i64 t.2.2.2.2.1.2.2.2.2, .slice A n c, .slice B p d]] w fun e w' => e = .returned (.string (asS (putMsg t))) ∧ Below w.heap.size w w' := by
  cases e1 : okMsg t
  · have hp : Hid (asS (putMsg t) = asS []) := hide (by unfold putMsg; rw [e1]; rfl)
    have hA := (Below.refl w.heap.size w).alloc (Nat.le_refl _) (.cells #[.int .i64 t.1, .int .i64 t.2.1, .int .i64 t.2.2.1, .int .i64 t.2.2.2.1, .int .i64 t.2.2.2.2.1.1, .int .i64 t.2.2.2.2.1.2.1, .int .i64 t.2.2.2.2.1.2.2.1, .int .i64 t.2.2.2.2.1.2.2.2.1, .int .i64 t.2.2.2.2.1.2.2.2.2, .slice A n c, .slice B p d] 34)
    have h0 := h0.below (flat_kept _) hA hhi
    have h1 := h1.below vote_kept hA hhi
    have hzA := hA.size
    go_enter Tryd.func7, Tryd.ntmps7
    go_wp2_with fail
    refine (MsgOkT_c t A B n c p d lo hi _ h0 h1 (Nat.le_trans hhi hzA)).mono ?_
    rintro e w1 ⟨rfl, hb1⟩
    rw [e1]
    go_wp2
    go_ret
    exact ⟨congrArg (fun v => Ending.returned (.string v)) hp.out.symm, hA.trans (hb1.mono hzA)⟩
  · have fit := okMsg_fit e1
    have hp : Hid (asS (putMsg t) = asS (headB t ++ putVs t.2.2.2.2.2.2)) := hide (by unfold putMsg; rw [e1, ← putM_head]; rfl)
    obtain ⟨ki, fr, vi, sq, r, cs, vs⟩ := t
    simp only at h0 h1 ⊢
    obtain ⟨⟨k0, k1⟩, ⟨f0, f1⟩, ⟨v0, v1⟩, ⟨s0, s1⟩, fcs, fvs⟩ := id fit
    simp only at k0 k1 f0 f1 v0 v1 s0 s1 fcs fvs
    obtain ⟨kn, rfl⟩ : ∃ k : Nat, ki = (k : Int) := ⟨ki.toNat, by omega⟩
    have hcl : cs.length ≤ 1048576 := by unfold szMsg at hz; simp only at hz; omega
    have hvl : szVotes vs ≤ 1048576 := by unfold szMsg at hz; simp only at hz; omega
    have hol := hide (out_len fit hz)
    have hA := (Below.refl w.heap.size w).alloc (Nat.le_refl _) (.cells #[.int .i64 (kn : Int), .int .i64 fr, .int .i64 vi, .int .i64 sq, .int .i64 r.1, .int .i64 r.2.1, .int .i64 r.2.2.1, .int .i64 r.2.2.2.1, .int .i64 r.2.2.2.2, .slice A n c, .slice B p d] 34)
    have g0 := h0.below (flat_kept _) hA hhi
    have g1 := h1.below vote_kept hA hhi
    have hzA := hA.size
    have y0 : (w.alloc (.cells #[.int .i64 (kn : Int), .int .i64 fr, .int .i64 vi, .int .i64 sq, .int .i64 r.1, .int .i64 r.2.1, .int .i64 r.2.2.1, .int .i64 r.2.2.2.1, .int .i64 r.2.2.2.2, .slice A n c, .slice B p d] 34)).cell? ⟨w.heap.size, 0, none⟩ = some (.int .i64 (kn : Int)) := by simp
    have y1 : (w.alloc (.cells #[.int .i64 (kn : Int), .int .i64 fr, .int .i64 vi, .int .i64 sq, .int .i64 r.1, .int .i64 r.2.1, .int .i64 r.2.2.1, .int .i64 r.2.2.2.1, .int .i64 r.2.2.2.2, .slice A n c, .slice B p d] 34)).cell? ⟨w.heap.size, 1, none⟩ = some (.int .i64 fr) := by simp
    have y2 : (w.alloc (.cells #[.int .i64 (kn : Int), .int .i64 fr, .int .i64 vi, .int .i64 sq, .int .i64 r.1, .int .i64 r.2.1, .int .i64 r.2.2.1, .int .i64 r.2.2.2.1, .int .i64 r.2.2.2.2, .slice A n c, .slice B p d] 34)).cell? ⟨w.heap.size, 2, none⟩ = some (.int .i64 vi) := by simp
    have y3 : (w.alloc (.cells #[.int .i64 (kn : Int), .int .i64 fr, .int .i64 vi, .int .i64 sq, .int .i64 r.1, .int .i64 r.2.1, .int .i64 r.2.2.1, .int .i64 r.2.2.2.1, .int .i64 r.2.2.2.2, .slice A n c, .slice B p d] 34)).cell? ⟨w.heap.size, 3, none⟩ = some (.int .i64 sq) := by simp
    have y4 : (w.alloc (.cells #[.int .i64 (kn : Int), .int .i64 fr, .int .i64 vi, .int .i64 sq, .int .i64 r.1, .int .i64 r.2.1, .int .i64 r.2.2.1, .int .i64 r.2.2.2.1, .int .i64 r.2.2.2.2, .slice A n c, .slice B p d] 34)).cell? ⟨w.heap.size, 4, none⟩ = some (.int .i64 r.1) := by simp
    have y5 : (w.alloc (.cells #[.int .i64 (kn : Int), .int .i64 fr, .int .i64 vi, .int .i64 sq, .int .i64 r.1, .int .i64 r.2.1, .int .i64 r.2.2.1, .int .i64 r.2.2.2.1, .int .i64 r.2.2.2.2, .slice A n c, .slice B p d] 34)).cell? ⟨w.heap.size, 5, none⟩ = some (.int .i64 r.2.1) := by simp
    have y6 : (w.alloc (.cells #[.int .i64 (kn : Int), .int .i64 fr, .int .i64 vi, .int .i64 sq, .int .i64 r.1, .int .i64 r.2.1, .int .i64 r.2.2.1, .int .i64 r.2.2.2.1, .int .i64 r.2.2.2.2, .slice A n c, .slice B p d] 34)).cell? ⟨w.heap.size, 6, none⟩ = some (.int .i64 r.2.2.1) := by simp
    have y7 : (w.alloc (.cells #[.int .i64 (kn : Int), .int .i64 fr, .int .i64 vi, .int .i64 sq, .int .i64 r.1, .int .i64 r.2.1, .int .i64 r.2.2.1, .int .i64 r.2.2.2.1, .int .i64 r.2.2.2.2, .slice A n c, .slice B p d] 34)).cell? ⟨w.heap.size, 7, none⟩ = some (.int .i64 r.2.2.2.1) := by simp
    have y8 : (w.alloc (.cells #[.int .i64 (kn : Int), .int .i64 fr, .int .i64 vi, .int .i64 sq, .int .i64 r.1, .int .i64 r.2.1, .int .i64 r.2.2.1, .int .i64 r.2.2.2.1, .int .i64 r.2.2.2.2, .slice A n c, .slice B p d] 34)).cell? ⟨w.heap.size, 8, none⟩ = some (.int .i64 r.2.2.2.2) := by simp
    have y9 : (w.alloc (.cells #[.int .i64 (kn : Int), .int .i64 fr, .int .i64 vi, .int .i64 sq, .int .i64 r.1, .int .i64 r.2.1, .int .i64 r.2.2.1, .int .i64 r.2.2.2.1, .int .i64 r.2.2.2.2, .slice A n c, .slice B p d] 34)).cell? ⟨w.heap.size, 9, none⟩ = some (.slice A n c) := by simp
    have y10 : (w.alloc (.cells #[.int .i64 (kn : Int), .int .i64 fr, .int .i64 vi, .int .i64 sq, .int .i64 r.1, .int .i64 r.2.1, .int .i64 r.2.2.1, .int .i64 r.2.2.2.1, .int .i64 r.2.2.2.2, .slice A n c, .slice B p d] 34)).cell? ⟨w.heap.size, 10, none⟩ = some (.slice B p d) := by simp
    have hl1 : w.heap.size < (w.alloc (.cells #[.int .i64 (kn : Int), .int .i64 fr, .int .i64 vi, .int .i64 sq, .int .i64 r.1, .int .i64 r.2.1, .int .i64 r.2.2.1, .int .i64 r.2.2.2.1, .int .i64 r.2.2.2.2, .slice A n c, .slice B p d] 34)).heap.size := by simp
    have hxs : ∀ x ∈ [fr, vi, sq], -1 ≤ x ∧ x ≤ 30 := by
      intro x hx
      simp only [List.mem_cons, List.not_mem_nil, or_false] at hx
      rcases hx with rfl | rfl | rfl <;> omega
    have hkl := kindW_len (kn : Int)
    have r1 := rowB_len (kindW (kn : Int)) (Nat.le_trans hkl (by omega)) _ hxs
    have r2 := putR_len r
    have r3 := putCs_len fcs
    rw [← asS_size] at r1 r2 r3
    simp only [List.length_cons, List.length_nil] at r1
    have z0 : ¬ 9223372036854775807 < (asS (rowB (kindW (kn : Int)) [fr, vi, sq])).size + 1 := by omega
    have z1 : ¬ 9223372036854775807 < (asS (rowB (kindW (kn : Int)) [fr, vi, sq])).size + 1 + (asS (putR r)).size := by omega
    have z2 : ¬ 9223372036854775807 < (asS (rowB (kindW (kn : Int)) [fr, vi, sq])).size + 1 + (asS (putR r)).size + 1 := by omega
    have z3 : ¬ 9223372036854775807 < (asS (rowB (kindW (kn : Int)) [fr, vi, sq])).size + 1 + (asS (putR r)).size + 1 + (asS (putCs cs)).size := by omega
    clear r1 r2 r3
    have hq0 : Hid ((((asS (rowB (kindW (kn : Int)) [fr, vi, sq]) ++ asS [32]) ++ asS (putR r)) ++ asS [10]) ++ asS (putCs cs) = asS (headB ((kn : Int), fr, vi, sq, r, cs, vs) ++ putVs (vs.take 0))) := hide (by rw [impl_head _ _ _ _ _ _ vs]; simp [putVs])
    go_enter Tryd.func7, Tryd.ntmps7
    go_wp2_with fail
    generalize w.alloc (.cells #[.int .i64 (kn : Int), .int .i64 fr, .int .i64 vi, .int .i64 sq, .int .i64 r.1, .int .i64 r.2.1, .int .i64 r.2.2.1, .int .i64 r.2.2.2.1, .int .i64 r.2.2.2.2, .slice A n c, .slice B p d] 34) = wa at *
    refine (MsgOkT_c ((kn : Int), fr, vi, sq, r, cs, vs) A B n c p d lo hi _ g0 g1 (Nat.le_trans hhi hzA)).mono ?_
    rintro e v1_ ⟨rfl, hb1⟩
    rw [e1]
    have y0 := keepc hb1 y0
    have y1 := keepc hb1 y1
    have y2 := keepc hb1 y2
    have y3 := keepc hb1 y3
    have y4 := keepc hb1 y4
    have y5 := keepc hb1 y5
    have y6 := keepc hb1 y6
    have y7 := keepc hb1 y7
    have y8 := keepc hb1 y8
    have y9 := keepc hb1 y9
    have y10 := keepc hb1 y10
    have hB := hA.trans (hb1.mono hzA)
    have hl1 := Nat.lt_of_lt_of_le hl1 hb1.size
    have ht := ht.below hB
    have hw := hw.below hB
    have hk := hk.below hB
    obtain ⟨gb, go, gc, xg, gc1, gc2, gb1, gsl⟩ := hk
    have hgk : kn < kindWs.length := by show kn < 7; omega
    have xw := gsl.str hgk
    rw [kindWs_at hgk] at xw
    have h7 : kindWs.length = 7 := rfl
    rw [h7] at xg gc1
    have hk7 : kn < 7 := by omega
    have hg1 : 0 < v1_.heap.size := lt_of_cell xg
    clear h7 hgk gsl
    go_wp2
    refine wp_region_T (Since _) [34] [] [9, 11, 12, 13, 24, 29, 22, 26, 27] [0, 1, 2, 3, 4, 5, 6, 7, 8, 9, 10, 14, 15, 19, 20, 11, 12, 13, 16, 17, 18, 21, 22, 23] (by kernel_rfl) (by kernel_rfl) (by kernel_rfl) (Since.drew _) ?_; simp only [pickL, List.getElem?_cons_succ, List.getElem?_cons_zero]
    have hD := (Below.refl v1_.heap.size v1_).drew
    have y0 := keepc hD y0
    have y1 := keepc hD y1
    have y2 := keepc hD y2
    have y3 := keepc hD y3
    have y4 := keepc hD y4
    have y5 := keepc hD y5
    have y6 := keepc hD y6
    have y7 := keepc hD y7
    have y8 := keepc hD y8
    have y9 := keepc hD y9
    have y10 := keepc hD y10
    have xg := keepc hD xg
    have xw := keepc hD xw
    have hB := hB.trans (hD.mono hB.size)
    have ht := ht.below hD
    have hw := hw.below hD
    have hS : Since v1_ v1_.drew := Since.drew _
    have hb := hD
    clear hD g0 g1
    generalize v1_.drew = v2 at *
    go_wp2_with (first
      | (with_reducible refine Since.and_ ?_ ?_; (focus (repeat (first | (with_reducible exact Since.refl _) | assumption | (with_reducible refine Since.drewR ?_) | (with_reducible refine Since.alloc ?_ _) | ((with_reducible apply Since.below); rotate_left; (focus assumption))))); intro hS) | ((with_reducible refine wpT_q0 ?_ ?_ ?_ ?_); (focus rfl); (focus rfl); (focus rfl); intro K hK) | ((with_reducible refine wpT_i ?_ ?_); (focus (refine ⟨_, _, _, _, _, _, _, _, rfl, rfl, rfl, rfl, rfl, ?_⟩; omega)); intro K hK) | ((with_reducible refine wpT_bs ?_ ?_); (focus (exact ⟨_, _, _, _, _, _, rfl, rfl, rfl, rfl, rfl⟩)); intro K hK) | ((with_reducible apply wpT_l); (focus rfl); (focus rfl); (focus rfl); (focus rfl); (focus (first | exact Since.drew _ | assumption)); (focus (simp <;> omega)); (focus go_simp); intro K hK) | ((with_reducible refine wpT_xs0 ?_ ?_ ?_); (focus rfl); (focus rfl); intro K hK) | ((with_reducible refine wpT_nil ?_); try dsimp only)
      | (go_at_call 17; refine (row_c (kindW (kn : Int)) [fr, vi, sq] _ 3 3 _ _ _ rfl (by omega) (sl_arr encI_len v2 #[.int .i64 fr, .int .i64 vi, .int .i64 sq] 3 [fr, vi, sq] rfl) (by simp) (ht.below ((Below.refl v2.heap.size v2).alloc (Nat.le_refl _) _)) hxs (Nat.le_trans hkl (by omega))).mono ?_; rintro e v3 ⟨rfl, hb3⟩; have hb3 := ((Below.refl v2.heap.size v2).alloc (Nat.le_refl _) _).trans (hb3.mono (by simp)); have ht := ht.below hb3; have hw := hw.below hb3; have hB := hB.trans (hb3.mono hB.size); have y10 := keepc hb3 y10; have hb := hb3; clear hb3)
      | (go_at_call 18; refine (ReqPut_c r v3 ht hw).mono ?_; rintro e v4 ⟨rfl, hb4⟩; have ht := ht.below hb4; have hw := hw.below hb4; have hB := hB.trans (hb4.mono hB.size); have y10 := keepc hb4 y10; have hb := hb4; clear hb4)
      | (go_at_call 19; refine (claimRows_c A n c lo hi cs v4 (h0.below (flat_kept _) hB hhi) (Nat.le_trans hhi hB.size) fcs hcl ht hw).mono ?_; rintro e v5 ⟨rfl, hb5⟩; have ht := ht.below hb5; have hw := hw.below hb5; have hB := hB.trans (hb5.mono hB.size); have y10 := keepc hb5 y10; have hb := hb5; clear hb5)
      | fail)
    have hn' := hide h1.len
    have hp1 := h1.cap
    have hp2 := h1.max
    unfold maxLen at hp2
    go_wp2
    go_loopw [35, 3] (fun i sv wr => ∃ k : Nat, k ≤ p ∧ i = .int .i64 k ∧ sv = .string (asS (headB ((kn : Int), fr, vi, sq, r, cs, vs) ++ putVs (vs.take k))) ∧ Tab wr ∧ WordsAt wr ∧ Below w.heap.size w wr) (fun i _ _ => p - (intOf i).toNat)
    case atStart => exact ⟨0, Nat.zero_le _, rfl, congrArg Value.string hq0.out, ht, hw, hB⟩
    case round =>
      obtain ⟨k, hk, rfl, rfl, ht, hw, hB⟩ := hrel
      by_cases hlt : k < p
      · have hlx : k < vs.length := by have := hn'.out; omega
        obtain ⟨b, off, rfl, hlo, hbh⟩ := h1.addr hlx
        obtain ⟨VA, vn, vc, a0, a1, a2⟩ := (h1.below vote_kept hB hhi).vote hlx
        obtain ⟨⟨q0, q1⟩, fvc⟩ := fvs _ (List.getElem_mem hlx)
        have hxv : ∀ x ∈ [vs[k].1], -1 ≤ x ∧ x ≤ 30 := by
          intro x hx
          simp only [List.mem_cons, List.not_mem_nil, or_false] at hx
          subst hx
          omega
        have r0 := hol.out k
        try simp only at r0
        have r1 := rowB_len [118, 111, 116, 101] (by simp) _ hxv
        have r3 := putCs_len fvc
        have r4 := szVotes_at vs k hlx
        rw [← asS_size] at r1 r3
        simp only [List.length_cons, List.length_nil] at r1
        have u0_ : ¬ 9223372036854775807 < (asS (rowB [118, 111, 116, 101] [vs[k].1])).size + 1 := by omega
        have u1_ : ¬ 9223372036854775807 < (asS (rowB [118, 111, 116, 101] [vs[k].1])).size + 1 + (asS (putCs vs[k].2)).size := by omega
        have u2_ : ¬ 9223372036854775807 < (asS (headB ((kn : Int), fr, vi, sq, r, cs, vs) ++ putVs (vs.take k))).size + ((asS (rowB [118, 111, 116, 101] [vs[k].1])).size + 1 + (asS (putCs vs[k].2)).size) := by omega
        have hvk : vs[k].2.length ≤ 1048576 := by omega
        clear r0 r1 r3 r4
        have hq : Hid (asS (headB ((kn : Int), fr, vi, sq, r, cs, vs) ++ putVs (vs.take k)) ++ ((asS (rowB [118, 111, 116, 101] [vs[k].1]) ++ asS [10]) ++ asS (putCs vs[k].2)) = asS (headB ((kn : Int), fr, vi, sq, r, cs, vs) ++ putVs (vs.take (k + 1)))) := hide (by rw [impl_vote, putVs_take vs k hlx, List.append_assoc])
        have hAv := (Below.refl wr.heap.size wr).alloc (Nat.le_refl _) (.cells #[.int .i64 vs[k].1, .slice VA vn vc] 49)
        have x0 : (wr.alloc (.cells #[.int .i64 vs[k].1, .slice VA vn vc] 49)).cell? ⟨wr.heap.size, 0, none⟩ = some (.int .i64 vs[k].1) := by simp
        have x1 : (wr.alloc (.cells #[.int .i64 vs[k].1, .slice VA vn vc] 49)).cell? ⟨wr.heap.size, 1, none⟩ = some (.slice VA vn vc) := by simp
        have hlb : wr.heap.size < (wr.alloc (.cells #[.int .i64 vs[k].1, .slice VA vn vc] 49)).heap.size := by simp
        go_wp2
        have a2 := a2.below (flat_kept _) hAv (Nat.le_trans hhi hB.size)
        have hB := hB.trans (hAv.mono hB.size)
        have ht := ht.below hAv
        have hw := hw.below hAv
        clear a0 a1
        generalize wr.alloc (.cells #[.int .i64 vs[k].1, .slice VA vn vc] 49) = m1 at *
        refine wp_region_T (Since _) [49] [] [46, 44] [0, 1, 2, 6, 7, 3, 4, 5, 8, 9, 10, 11] (by kernel_rfl) (by kernel_rfl) (by kernel_rfl) (Since.drew _) ?_; simp only [pickL, List.getElem?_cons_succ, List.getElem?_cons_zero]
        have hD := (Below.refl m1.heap.size m1).drew
        have x0 := keepc hD x0
        have x1 := keepc hD x1
        have a2 := a2.below (flat_kept _) hD (Nat.le_trans hhi hB.size)
        have hB := hB.trans (hD.mono hB.size)
        have ht := ht.below hD
        have hw := hw.below hD
        have hS : Since m1 m1.drew := Since.drew _
        have hb := hD
        clear hD
        generalize m1.drew = m2 at *
        go_wp2_with (first
          | (with_reducible refine Since.and_ ?_ ?_; (focus (repeat (first | (with_reducible exact Since.refl _) | assumption | (with_reducible refine Since.drewR ?_) | (with_reducible refine Since.alloc ?_ _) | ((with_reducible apply Since.below); rotate_left; (focus assumption))))); intro hS) | ((with_reducible refine wpT_q0 ?_ ?_ ?_ ?_); (focus rfl); (focus rfl); (focus rfl); intro K hK) | ((with_reducible refine wpT_i ?_ ?_); (focus (refine ⟨_, _, _, _, _, _, _, _, rfl, rfl, rfl, rfl, rfl, ?_⟩; omega)); intro K hK) | ((with_reducible refine wpT_bs ?_ ?_); (focus (exact ⟨_, _, _, _, _, _, rfl, rfl, rfl, rfl, rfl⟩)); intro K hK) | ((with_reducible apply wpT_l); (focus rfl); (focus rfl); (focus rfl); (focus rfl); (focus (first | exact Since.drew _ | assumption)); (focus (simp <;> omega)); (focus go_simp); intro K hK) | ((with_reducible refine wpT_xs0 ?_ ?_ ?_); (focus rfl); (focus rfl); intro K hK) | ((with_reducible refine wpT_nil ?_); try dsimp only)
          | (go_at_call 17; refine (row_c [118, 111, 116, 101] [vs[k].1] _ 1 1 _ _ _ rfl (by omega) (sl_arr encI_len m2 #[.int .i64 vs[k].1] 3 [vs[k].1] rfl) (by simp) (ht.below ((Below.refl m2.heap.size m2).alloc (Nat.le_refl _) _)) hxv (by simp)).mono ?_; rintro e m3 ⟨rfl, hb3⟩; have hb3 := ((Below.refl m2.heap.size m2).alloc (Nat.le_refl _) _).trans (hb3.mono (by simp)); have ht := ht.below hb3; have hw := hw.below hb3; have a2 := a2.below (flat_kept _) hb3 (Nat.le_trans hhi hB.size); have hB := hB.trans (hb3.mono hB.size); have hb := hb3; clear hb3)
          | (go_at_call 19; refine (claimRows_c VA vn vc lo hi vs[k].2 m3 a2 (Nat.le_trans hhi hB.size) fvc hvk ht hw).mono ?_; rintro e m4 ⟨rfl, hb4⟩; have ht := ht.below hb4; have hw := hw.below hb4; have hB := hB.trans (hb4.mono hB.size); have hb := hb4; clear hb4)
          | fail)
        go_roundw
        case rel => exact ⟨k + 1, by omega, by go_num, congrArg Value.string hq.out, ht, hw, hB⟩
        case measure => simp [intOf]; omega
      · obtain rfl : k = p := by omega
        have hq : Hid (asS (headB ((kn : Int), fr, vi, sq, r, cs, vs) ++ putVs (vs.take k)) = asS (putMsg ((kn : Int), fr, vi, sq, r, cs, vs))) := hide (by rw [hp.out, List.take_of_length_le (by have := hn'.out; omega)])
        go_wp2
        go_ret
        exact ⟨congrArg (fun v => Ending.returned (.string v)) hq.out, hB⟩

set_option maxRecDepth 100000 in
set_option maxHeartbeats 8000000 in
theorem l10Put_c (t : MsgT) (A B : Option Addr) (n c p d : Nat) (lo hi : Nat) (w : World) (h0 : RdN 7 clR w lo hi A n c t.2.2.2.2.2.1) (h1 : RdN 2 voteR w lo hi B p d t.2.2.2.2.2.2) (hhi : hi ≤ w.heap.size) (hz : szMsg t ≤ 1048576) (e1 : okMsg t = true) :
    Calls Tryd.prog 12 #[.agg #[.int .i64 t.1, .int .i64 t.2.1, .int .i64 t.2.2.1, .int .i64 t.2.2.2.1, .int .i64 t.2.2.2.2.1.1, .int .i64 t.2.2.2.2.1.2.1, .int .i64 t.2.2.2.2.1.2.2.1, .int .i64 t.2.2.2.2.1.2.2.2.1, .int .i64 t.2.2.2.2.1.2.2.2.2, .slice A n c, .slice B p d]] w fun e w' => e = .returned (.string (asS (putM t))) ∧ Below w.heap.size w w' := by
  have fit := okMsg_fit e1
  have hp : Hid (asS (putM t) = asS (headB t ++ putVs t.2.2.2.2.2.2)) := hide (by rw [← putM_head])
  obtain ⟨ki, fr, vi, sq, r, cs, vs⟩ := t
  simp only at h0 h1 ⊢
  obtain ⟨⟨k0, k1⟩, ⟨f0, f1⟩, ⟨v0, v1⟩, ⟨s0, s1⟩, fcs, fvs⟩ := id fit
  simp only at k0 k1 f0 f1 v0 v1 s0 s1 fcs fvs
  obtain ⟨kn, rfl⟩ : ∃ k : Nat, ki = (k : Int) := ⟨ki.toNat, by omega⟩
  have hcl : cs.length ≤ 1048576 := by unfold szMsg at hz; simp only at hz; omega
  have hvl : szVotes vs ≤ 1048576 := by unfold szMsg at hz; simp only at hz; omega
  have hol := hide (out_len fit hz)
  have hA := (Below.refl w.heap.size w).alloc (Nat.le_refl _) (.cells #[.int .i64 (kn : Int), .int .i64 fr, .int .i64 vi, .int .i64 sq, .int .i64 r.1, .int .i64 r.2.1, .int .i64 r.2.2.1, .int .i64 r.2.2.2.1, .int .i64 r.2.2.2.2, .slice A n c, .slice B p d] 34)
  have y0 : (w.alloc (.cells #[.int .i64 (kn : Int), .int .i64 fr, .int .i64 vi, .int .i64 sq, .int .i64 r.1, .int .i64 r.2.1, .int .i64 r.2.2.1, .int .i64 r.2.2.2.1, .int .i64 r.2.2.2.2, .slice A n c, .slice B p d] 34)).cell? ⟨w.heap.size, 0, none⟩ = some (.int .i64 (kn : Int)) := by simp
  have y1 : (w.alloc (.cells #[.int .i64 (kn : Int), .int .i64 fr, .int .i64 vi, .int .i64 sq, .int .i64 r.1, .int .i64 r.2.1, .int .i64 r.2.2.1, .int .i64 r.2.2.2.1, .int .i64 r.2.2.2.2, .slice A n c, .slice B p d] 34)).cell? ⟨w.heap.size, 1, none⟩ = some (.int .i64 fr) := by simp
  have y2 : (w.alloc (.cells #[.int .i64 (kn : Int), .int .i64 fr, .int .i64 vi, .int .i64 sq, .int .i64 r.1, .int .i64 r.2.1, .int .i64 r.2.2.1, .int .i64 r.2.2.2.1, .int .i64 r.2.2.2.2, .slice A n c, .slice B p d] 34)).cell? ⟨w.heap.size, 2, none⟩ = some (.int .i64 vi) := by simp
  have y3 : (w.alloc (.cells #[.int .i64 (kn : Int), .int .i64 fr, .int .i64 vi, .int .i64 sq, .int .i64 r.1, .int .i64 r.2.1, .int .i64 r.2.2.1, .int .i64 r.2.2.2.1, .int .i64 r.2.2.2.2, .slice A n c, .slice B p d] 34)).cell? ⟨w.heap.size, 3, none⟩ = some (.int .i64 sq) := by simp
  have y4 : (w.alloc (.cells #[.int .i64 (kn : Int), .int .i64 fr, .int .i64 vi, .int .i64 sq, .int .i64 r.1, .int .i64 r.2.1, .int .i64 r.2.2.1, .int .i64 r.2.2.2.1, .int .i64 r.2.2.2.2, .slice A n c, .slice B p d] 34)).cell? ⟨w.heap.size, 4, none⟩ = some (.int .i64 r.1) := by simp
  have y5 : (w.alloc (.cells #[.int .i64 (kn : Int), .int .i64 fr, .int .i64 vi, .int .i64 sq, .int .i64 r.1, .int .i64 r.2.1, .int .i64 r.2.2.1, .int .i64 r.2.2.2.1, .int .i64 r.2.2.2.2, .slice A n c, .slice B p d] 34)).cell? ⟨w.heap.size, 5, none⟩ = some (.int .i64 r.2.1) := by simp
  have y6 : (w.alloc (.cells #[.int .i64 (kn : Int), .int .i64 fr, .int .i64 vi, .int .i64 sq, .int .i64 r.1, .int .i64 r.2.1, .int .i64 r.2.2.1, .int .i64 r.2.2.2.1, .int .i64 r.2.2.2.2, .slice A n c, .slice B p d] 34)).cell? ⟨w.heap.size, 6, none⟩ = some (.int .i64 r.2.2.1) := by simp
  have y7 : (w.alloc (.cells #[.int .i64 (kn : Int), .int .i64 fr, .int .i64 vi, .int .i64 sq, .int .i64 r.1, .int .i64 r.2.1, .int .i64 r.2.2.1, .int .i64 r.2.2.2.1, .int .i64 r.2.2.2.2, .slice A n c, .slice B p d] 34)).cell? ⟨w.heap.size, 7, none⟩ = some (.int .i64 r.2.2.2.1) := by simp
  have y8 : (w.alloc (.cells #[.int .i64 (kn : Int), .int .i64 fr, .int .i64 vi, .int .i64 sq, .int .i64 r.1, .int .i64 r.2.1, .int .i64 r.2.2.1, .int .i64 r.2.2.2.1, .int .i64 r.2.2.2.2, .slice A n c, .slice B p d] 34)).cell? ⟨w.heap.size, 8, none⟩ = some (.int .i64 r.2.2.2.2) := by simp
  have y9 : (w.alloc (.cells #[.int .i64 (kn : Int), .int .i64 fr, .int .i64 vi, .int .i64 sq, .int .i64 r.1, .int .i64 r.2.1, .int .i64 r.2.2.1, .int .i64 r.2.2.2.1, .int .i64 r.2.2.2.2, .slice A n c, .slice B p d] 34)).cell? ⟨w.heap.size, 9, none⟩ = some (.slice A n c) := by simp
  have y10 : (w.alloc (.cells #[.int .i64 (kn : Int), .int .i64 fr, .int .i64 vi, .int .i64 sq, .int .i64 r.1, .int .i64 r.2.1, .int .i64 r.2.2.1, .int .i64 r.2.2.2.1, .int .i64 r.2.2.2.2, .slice A n c, .slice B p d] 34)).cell? ⟨w.heap.size, 10, none⟩ = some (.slice B p d) := by simp
  have hl1 : w.heap.size < (w.alloc (.cells #[.int .i64 (kn : Int), .int .i64 fr, .int .i64 vi, .int .i64 sq, .int .i64 r.1, .int .i64 r.2.1, .int .i64 r.2.2.1, .int .i64 r.2.2.2.1, .int .i64 r.2.2.2.2, .slice A n c, .slice B p d] 34)).heap.size := by simp
  have r0 := kindW_len (kn : Int)
  have r1 := itoa_small (n := fr) (by omega) (by omega)
  have r2 := itoa_small (n := vi) (by omega) (by omega)
  have r3 := itoa_small (n := sq) (by omega) (by omega)
  have r4 := putR_len r
  have r5 := putCs_len fcs
  rw [← asS_size] at r0 r1 r2 r3 r4 r5
  have z0 : ¬ 9223372036854775807 < (asS (kindW (kn : Int))).size + 1 := by omega
  have z1 : ¬ 9223372036854775807 < (asS (kindW (kn : Int))).size + 1 + (asS (itoa fr)).size := by omega
  have z2 : ¬ 9223372036854775807 < (asS (kindW (kn : Int))).size + 1 + (asS (itoa fr)).size + 1 := by omega
  have z3 : ¬ 9223372036854775807 < (asS (kindW (kn : Int))).size + 1 + (asS (itoa fr)).size + 1 + (asS (itoa vi)).size := by omega
  have z4 : ¬ 9223372036854775807 < (asS (kindW (kn : Int))).size + 1 + (asS (itoa fr)).size + 1 + (asS (itoa vi)).size + 1 := by omega
  have z5 : ¬ 9223372036854775807 < (asS (kindW (kn : Int))).size + 1 + (asS (itoa fr)).size + 1 + (asS (itoa vi)).size + 1 + (asS (itoa sq)).size := by omega
  have z6 : ¬ 9223372036854775807 < (asS (kindW (kn : Int))).size + 1 + (asS (itoa fr)).size + 1 + (asS (itoa vi)).size + 1 + (asS (itoa sq)).size + 1 := by omega
  have z7 : ¬ 9223372036854775807 < (asS (kindW (kn : Int))).size + 1 + (asS (itoa fr)).size + 1 + (asS (itoa vi)).size + 1 + (asS (itoa sq)).size + 1 + (asS (putR r)).size := by omega
  have z8 : ¬ 9223372036854775807 < (asS (kindW (kn : Int))).size + 1 + (asS (itoa fr)).size + 1 + (asS (itoa vi)).size + 1 + (asS (itoa sq)).size + 1 + (asS (putR r)).size + 1 := by omega
  have z9 : ¬ 9223372036854775807 < (asS (kindW (kn : Int))).size + 1 + (asS (itoa fr)).size + 1 + (asS (itoa vi)).size + 1 + (asS (itoa sq)).size + 1 + (asS (putR r)).size + 1 + (asS (putCs cs)).size := by omega
  clear r0 r1 r2 r3 r4 r5
  have hq0 : Hid (((((((((((asS (kindW (kn : Int)) ++ asS [32]) ++ asS (itoa fr)) ++ asS [32]) ++ asS (itoa vi)) ++ asS [32]) ++ asS (itoa sq)) ++ asS [32]) ++ asS (putR r)) ++ asS [10]) ++ asS (putCs cs)) = asS (headB ((kn : Int), fr, vi, sq, r, cs, vs) ++ putVs (vs.take 0))) := hide (by rw [spec_head _ _ _ _ _ _ vs]; simp [putVs])
  have hk7 : kn < 7 := by omega
  have hn' := hide h1.len
  have hp1 := h1.cap
  have hp2 := h1.max
  unfold maxLen at hp2
  go_enter Tryd.func12, Tryd.ntmps12
  go_wp2
  have hl0 := hA.size
  generalize w.alloc (.cells #[.int .i64 (kn : Int), .int .i64 fr, .int .i64 vi, .int .i64 sq, .int .i64 r.1, .int .i64 r.2.1, .int .i64 r.2.2.1, .int .i64 r.2.2.2.1, .int .i64 r.2.2.2.2, .slice A n c, .slice B p d] 34) = v1_ at *
  refine wp_region_O (Since _) [34] [9] [7, 8, 10, 12, 14, 15, 17, 19, 20, 22, 24, 25, 27, 29, 30, 32] (Ord.seg [1, 2, 6, 7, 11, 12, 16, 17, 21, 22, 26, 27, 0, 3] (Ord.both 4 8 (Ord.seg [5, 8, 9, 10, 13, 14, 15, 18, 19, 20, 23, 24, 25, 28, 29, 30] Ord.done) (Ord.seg [] (Ord.both 4 13 (Ord.seg [5, 9, 10, 13, 14, 15, 18, 19, 20, 23, 24, 25, 28, 29, 30] Ord.done) (Ord.seg [] (Ord.both 4 18 (Ord.seg [5, 9, 10, 14, 15, 18, 19, 20, 23, 24, 25, 28, 29, 30] Ord.done) (Ord.seg [] (Ord.both 4 23 (Ord.seg [5, 9, 10, 14, 15, 19, 20, 23, 24, 25, 28, 29, 30] Ord.done) (Ord.seg [] (Ord.both 4 28 (Ord.seg [5, 9, 10, 14, 15, 19, 20, 24, 25, 28, 29, 30] Ord.done) (Ord.seg [4, 5, 9, 10, 14, 15, 19, 20, 24, 25, 29, 30] Ord.done))))))))))) (by kernel_rfl) (by kernel_rfl) (by kernel_rfl) (Since.drew _) ?_
  have hD := (Below.refl v1_.heap.size v1_).drew
  have y0 := keepc hD y0
  have y1 := keepc hD y1
  have y2 := keepc hD y2
  have y3 := keepc hD y3
  have y4 := keepc hD y4
  have y5 := keepc hD y5
  have y6 := keepc hD y6
  have y7 := keepc hD y7
  have y8 := keepc hD y8
  have y9 := keepc hD y9
  have y10 := keepc hD y10
  have hB := hA.trans (hD.mono hA.size)
  have hS : Since v1_ v1_.drew := Since.drew _
  have hb := hD
  have hl1 := Nat.lt_of_lt_of_le hl1 hD.size
  clear hD
  generalize v1_.drew = v2 at *
  go_wp2_with (first
    | ((with_reducible refine wpO_seg ?_); simp only [pickL, List.toList_toArray, List.getElem?_cons_succ, List.getElem?_cons_zero]) | ((with_reducible refine wpO_both ?_ ?_) <;> simp only [pickL, List.toList_toArray, List.getElem?_cons_succ, List.getElem?_cons_zero]) | ((with_reducible refine wpO_done ?_); try dsimp only) | (with_reducible refine Since.and_ ?_ ?_; (focus (repeat (first | (with_reducible exact Since.refl _) | assumption | (with_reducible refine Since.drewR ?_) | (with_reducible refine Since.alloc ?_ _) | ((with_reducible apply Since.below); rotate_left; (focus assumption))))); intro hS) | ((with_reducible refine wpT_q0 ?_ ?_ ?_ ?_); (focus rfl); (focus rfl); (focus rfl); intro K hK) | ((with_reducible refine wpT_i ?_ ?_); (focus (refine ⟨_, _, _, _, _, _, _, _, rfl, rfl, rfl, rfl, rfl, ?_⟩; omega)); intro K hK) | ((with_reducible refine wpT_bs ?_ ?_); (focus (exact ⟨_, _, _, _, _, _, rfl, rfl, rfl, rfl, rfl⟩)); intro K hK) | ((with_reducible apply wpT_l); (focus rfl); (focus rfl); (focus rfl); (focus rfl); (focus (first | exact Since.drew _ | assumption)); (focus (simp <;> omega)); (focus go_simp); intro K hK) | ((with_reducible refine wpT_xs0 ?_ ?_ ?_); (focus rfl); (focus rfl); intro K hK) | ((with_reducible refine wpT_nil ?_); try dsimp only)
    | (go_at_call 29; refine (l10Words_c _).mono ?_; rintro e wn ⟨gb, rfl, hgb, hgl, gsl, hbn⟩; have xw := gsl.str (show kn < kindWs.length from hk7); rw [kindWs_at (show kn < kindWs.length from hk7), Nat.zero_add] at xw; clear gsl hgb; have hB := hB.trans (hbn.mono hB.size); have y10 := keepc hbn y10; have hl1 := Nat.lt_of_lt_of_le hl1 hbn.size; have hb := hbn; clear hbn)
    | (go_at_call 30; refine (l1Dec_c _ (by omega) (by omega) _).mono ?_; rintro e wn ⟨rfl, hbn⟩; (try have xw := keepc hbn xw); (try have hgl := Nat.lt_of_lt_of_le hgl hbn.size); have hB := hB.trans (hbn.mono hB.size); have y10 := keepc hbn y10; have hl1 := Nat.lt_of_lt_of_le hl1 hbn.size; have hb := hbn; clear hbn)
    | (go_at_call 31; refine (specReqPut_c r _).mono ?_; rintro e wn ⟨rfl, hbn⟩; (try have xw := keepc hbn xw); (try have hgl := Nat.lt_of_lt_of_le hgl hbn.size); have hB := hB.trans (hbn.mono hB.size); have y10 := keepc hbn y10; have hl1 := Nat.lt_of_lt_of_le hl1 hbn.size; have hb := hbn; clear hbn)
    | (go_at_call 32; refine (l10Claims_c A n c lo hi cs _ (h0.below (flat_kept _) hB hhi) (Nat.le_trans hhi hB.size) fcs hcl).mono ?_; rintro e wn ⟨rfl, hbn⟩; (try have xw := keepc hbn xw); (try have hgl := Nat.lt_of_lt_of_le hgl hbn.size); have hB := hB.trans (hbn.mono hB.size); have y10 := keepc hbn y10; have hl1 := Nat.lt_of_lt_of_le hl1 hbn.size; have hb := hbn; clear hbn)
    | fail)
  all_goals
    have hBq := hB
    have hlq := hl1
    clear hb hB hl1
    go_loopw [4, 3] (fun i sv wr => ∃ k : Nat, k ≤ p ∧ i = .int .i64 k ∧ sv = .string (asS (headB ((kn : Int), fr, vi, sq, r, cs, vs) ++ putVs (vs.take k))) ∧ wr.cell? ⟨w.heap.size, 10, none⟩ = some (.slice B p d) ∧ w.heap.size < wr.heap.size ∧ Below w.heap.size w wr) (fun i _ _ => p - (intOf i).toNat)
    case atStart => exact ⟨0, Nat.zero_le _, rfl, congrArg Value.string hq0.out, y10, hlq, hBq⟩
    case round =>
      obtain ⟨k, hk, rfl, rfl, z10, hl1, hB⟩ := hrel
      by_cases hlt : k < p
      · have hlx : k < vs.length := by have := hn'.out; omega
        obtain ⟨b, off, rfl, hlo, hbh⟩ := h1.addr hlx
        obtain ⟨⟨q0, q1⟩, fvc⟩ := fvs _ (List.getElem_mem hlx)
        have r0 := hol.out k
        try simp only at r0
        have r1 := itoa_small (n := vs[k].1) (by omega) (by omega)
        have r3 := putCs_len fvc
        have r4 := szVotes_at vs k hlx
        rw [← asS_size] at r1 r3
        have u_0 : ¬ 9223372036854775807 < (asS (headB ((kn : Int), fr, vi, sq, r, cs, vs) ++ putVs (vs.take k))).size + 5 := by omega
        have u_1 : ¬ 9223372036854775807 < (asS (headB ((kn : Int), fr, vi, sq, r, cs, vs) ++ putVs (vs.take k))).size + 5 + (asS (itoa vs[k].1)).size := by omega
        have u_2 : ¬ 9223372036854775807 < (asS (headB ((kn : Int), fr, vi, sq, r, cs, vs) ++ putVs (vs.take k))).size + 5 + (asS (itoa vs[k].1)).size + 1 := by omega
        have u_3 : ¬ 9223372036854775807 < (asS (headB ((kn : Int), fr, vi, sq, r, cs, vs) ++ putVs (vs.take k))).size + 5 + (asS (itoa vs[k].1)).size + 1 + (asS (putCs vs[k].2)).size := by omega
        have hvk : vs[k].2.length ≤ 1048576 := by omega
        clear r0 r1 r3 r4
        have hq : Hid ((((asS (headB ((kn : Int), fr, vi, sq, r, cs, vs) ++ putVs (vs.take k)) ++ asS [118, 111, 116, 101, 32]) ++ asS (itoa vs[k].1)) ++ asS [10]) ++ asS (putCs vs[k].2) = asS (headB ((kn : Int), fr, vi, sq, r, cs, vs) ++ putVs (vs.take (k + 1)))) := hide (by rw [spec_vote, putVs_take vs k hlx, List.append_assoc])
        have hbw : b < wr.heap.size := by have := hB.size; omega
        go_wp2
        refine wp_region_T (Since _) [34, 49] [] [43, 54, 56, 58, 51, 52] [0, 1, 2, 3, 4, 5, 6, 7, 11, 12, 13, 14, 15, 16, 8, 9, 10, 17, 18, 19] (by kernel_rfl) (by kernel_rfl) (by kernel_rfl) (Since.drew _) ?_; simp only [pickL, List.getElem?_cons_succ, List.getElem?_cons_zero]
        have hS : Since wr wr.drew := Since.drew _
        have hb := (Below.refl wr.heap.size wr).drew
        have hB := hB.trans (hb.mono hB.size)
        have z10 := keepc hb z10
        have hl1 := Nat.lt_of_lt_of_le hl1 hb.size
        obtain ⟨VA, vn, vc, a0, a1, a2⟩ := (h1.below vote_kept hB hhi).vote hlx
        have hb := hb
        generalize wr.drew = m2 at *
        go_wp2_with (first
          | (with_reducible refine Since.and_ ?_ ?_; (focus (repeat (first | (with_reducible exact Since.refl _) | assumption | (with_reducible refine Since.drewR ?_) | (with_reducible refine Since.alloc ?_ _) | ((with_reducible apply Since.below); rotate_left; (focus assumption))))); intro hS) | ((with_reducible refine wpT_q0 ?_ ?_ ?_ ?_); (focus rfl); (focus rfl); (focus rfl); intro K hK) | ((with_reducible refine wpT_i ?_ ?_); (focus (refine ⟨_, _, _, _, _, _, _, _, rfl, rfl, rfl, rfl, rfl, ?_⟩; omega)); intro K hK) | ((with_reducible refine wpT_bs ?_ ?_); (focus (exact ⟨_, _, _, _, _, _, rfl, rfl, rfl, rfl, rfl⟩)); intro K hK) | ((with_reducible apply wpT_l); (focus rfl); (focus rfl); (focus rfl); (focus rfl); (focus (first | exact Since.drew _ | assumption)); (focus (simp <;> omega)); (focus go_simp); intro K hK) | ((with_reducible refine wpT_xs0 ?_ ?_ ?_); (focus rfl); (focus rfl); intro K hK) | ((with_reducible refine wpT_nil ?_); try dsimp only)
          | (go_at_call 30; refine (l1Dec_c _ (by omega) (by omega) _).mono ?_; rintro e m3 ⟨rfl, hbn⟩; have a2 := a2.below (flat_kept _) hbn (Nat.le_trans hhi hB.size); have z10 := keepc hbn z10; have hl1 := Nat.lt_of_lt_of_le hl1 hbn.size; have hB := hB.trans (hbn.mono hB.size); have hb := hbn; clear hbn)
          | (go_at_call 32; refine (l10Claims_c VA vn vc lo hi vs[k].2 m3 a2 (Nat.le_trans hhi hB.size) fvc hvk).mono ?_; rintro e m4 ⟨rfl, hbn⟩; have z10 := keepc hbn z10; have hl1 := Nat.lt_of_lt_of_le hl1 hbn.size; have hB := hB.trans (hbn.mono hB.size); have hb := hbn; clear hbn)
          | fail)
        go_roundw
        case rel => exact ⟨k + 1, by omega, by go_num, congrArg Value.string hq.out, z10, hl1, hB⟩
        case measure => simp [intOf]; omega
      · obtain rfl : k = p := by omega
        have hq : Hid (asS (headB ((kn : Int), fr, vi, sq, r, cs, vs) ++ putVs (vs.take k)) = asS (putM ((kn : Int), fr, vi, sq, r, cs, vs))) := hide (by rw [hp.out, List.take_of_length_le (by have := hn'.out; omega)])
        go_wp2
        go_ret
        exact ⟨congrArg (fun v => Ending.returned (.string v)) hq.out, hB⟩
set_option maxRecDepth 100000 in
set_option maxHeartbeats 2000000 in
theorem specMsgPut_c (t : MsgT) (A B : Option Addr) (n c p d : Nat) (lo hi : Nat) (w : World) (h0 : RdN 7 clR w lo hi A n c t.2.2.2.2.2.1) (h1 : RdN 2 voteR w lo hi B p d t.2.2.2.2.2.2) (hhi : hi ≤ w.heap.size) (hz : szMsg t ≤ 1048576) :
    Calls Tryd.prog 5 #[.agg #[.int .i64 t.1, .int .i64 t.2.1, .int .i64 t.2.2.1, .int .i64 t.2.2.2.1, .int .i64 t.2.2.2.2.1.1, .int .i64 t.2.2.2.2.1.2.1, .int .i64 t.2.2.2.2.1.2.2.1, .int .i64 t.2.2.2.2.1.2.2.2.1, .int .i64 t.2.2.2.2.1.2.2.2.2, .slice A n c, .slice B p d]] w fun e w' => e = .returned (.string (asS (putMsg t))) ∧ Below w.heap.size w w' := by
  have hA := (Below.refl w.heap.size w).alloc (Nat.le_refl _) (.cells #[.int .i64 t.1, .int .i64 t.2.1, .int .i64 t.2.2.1, .int .i64 t.2.2.2.1, .int .i64 t.2.2.2.2.1.1, .int .i64 t.2.2.2.2.1.2.1, .int .i64 t.2.2.2.2.1.2.2.1, .int .i64 t.2.2.2.2.1.2.2.2.1, .int .i64 t.2.2.2.2.1.2.2.2.2, .slice A n c, .slice B p d] 34)
  have g0 := h0.below (flat_kept _) hA hhi
  have g1 := h1.below vote_kept hA hhi
  have hzA := hA.size
  have y0 : (w.alloc (.cells #[.int .i64 t.1, .int .i64 t.2.1, .int .i64 t.2.2.1, .int .i64 t.2.2.2.1, .int .i64 t.2.2.2.2.1.1, .int .i64 t.2.2.2.2.1.2.1, .int .i64 t.2.2.2.2.1.2.2.1, .int .i64 t.2.2.2.2.1.2.2.2.1, .int .i64 t.2.2.2.2.1.2.2.2.2, .slice A n c, .slice B p d] 34)).cell? ⟨w.heap.size, 0, none⟩ = some (.int .i64 t.1) := by simp
  have y1 : (w.alloc (.cells #[.int .i64 t.1, .int .i64 t.2.1, .int .i64 t.2.2.1, .int .i64 t.2.2.2.1, .int .i64 t.2.2.2.2.1.1, .int .i64 t.2.2.2.2.1.2.1, .int .i64 t.2.2.2.2.1.2.2.1, .int .i64 t.2.2.2.2.1.2.2.2.1, .int .i64 t.2.2.2.2.1.2.2.2.2, .slice A n c, .slice B p d] 34)).cell? ⟨w.heap.size, 1, none⟩ = some (.int .i64 t.2.1) := by simp
  have y2 : (w.alloc (.cells #[.int .i64 t.1, .int .i64 t.2.1, .int .i64 t.2.2.1, .int .i64 t.2.2.2.1, .int .i64 t.2.2.2.2.1.1, .int .i64 t.2.2.2.2.1.2.1, .int .i64 t.2.2.2.2.1.2.2.1, .int .i64 t.2.2.2.2.1.2.2.2.1, .int .i64 t.2.2.2.2.1.2.2.2.2, .slice A n c, .slice B p d] 34)).cell? ⟨w.heap.size, 2, none⟩ = some (.int .i64 t.2.2.1) := by simp
  have y3 : (w.alloc (.cells #[.int .i64 t.1, .int .i64 t.2.1, .int .i64 t.2.2.1, .int .i64 t.2.2.2.1, .int .i64 t.2.2.2.2.1.1, .int .i64 t.2.2.2.2.1.2.1, .int .i64 t.2.2.2.2.1.2.2.1, .int .i64 t.2.2.2.2.1.2.2.2.1, .int .i64 t.2.2.2.2.1.2.2.2.2, .slice A n c, .slice B p d] 34)).cell? ⟨w.heap.size, 3, none⟩ = some (.int .i64 t.2.2.2.1) := by simp
  have y4 : (w.alloc (.cells #[.int .i64 t.1, .int .i64 t.2.1, .int .i64 t.2.2.1, .int .i64 t.2.2.2.1, .int .i64 t.2.2.2.2.1.1, .int .i64 t.2.2.2.2.1.2.1, .int .i64 t.2.2.2.2.1.2.2.1, .int .i64 t.2.2.2.2.1.2.2.2.1, .int .i64 t.2.2.2.2.1.2.2.2.2, .slice A n c, .slice B p d] 34)).cell? ⟨w.heap.size, 4, none⟩ = some (.int .i64 t.2.2.2.2.1.1) := by simp
  have y5 : (w.alloc (.cells #[.int .i64 t.1, .int .i64 t.2.1, .int .i64 t.2.2.1, .int .i64 t.2.2.2.1, .int .i64 t.2.2.2.2.1.1, .int .i64 t.2.2.2.2.1.2.1, .int .i64 t.2.2.2.2.1.2.2.1, .int .i64 t.2.2.2.2.1.2.2.2.1, .int .i64 t.2.2.2.2.1.2.2.2.2, .slice A n c, .slice B p d] 34)).cell? ⟨w.heap.size, 5, none⟩ = some (.int .i64 t.2.2.2.2.1.2.1) := by simp
  have y6 : (w.alloc (.cells #[.int .i64 t.1, .int .i64 t.2.1, .int .i64 t.2.2.1, .int .i64 t.2.2.2.1, .int .i64 t.2.2.2.2.1.1, .int .i64 t.2.2.2.2.1.2.1, .int .i64 t.2.2.2.2.1.2.2.1, .int .i64 t.2.2.2.2.1.2.2.2.1, .int .i64 t.2.2.2.2.1.2.2.2.2, .slice A n c, .slice B p d] 34)).cell? ⟨w.heap.size, 6, none⟩ = some (.int .i64 t.2.2.2.2.1.2.2.1) := by simp
  have y7 : (w.alloc (.cells #[.int .i64 t.1, .int .i64 t.2.1, .int .i64 t.2.2.1, .int .i64 t.2.2.2.1, .int .i64 t.2.2.2.2.1.1, .int .i64 t.2.2.2.2.1.2.1, .int .i64 t.2.2.2.2.1.2.2.1, .int .i64 t.2.2.2.2.1.2.2.2.1, .int .i64 t.2.2.2.2.1.2.2.2.2, .slice A n c, .slice B p d] 34)).cell? ⟨w.heap.size, 7, none⟩ = some (.int .i64 t.2.2.2.2.1.2.2.2.1) := by simp
  have y8 : (w.alloc (.cells #[.int .i64 t.1, .int .i64 t.2.1, .int .i64 t.2.2.1, .int .i64 t.2.2.2.1, .int .i64 t.2.2.2.2.1.1, .int .i64 t.2.2.2.2.1.2.1, .int .i64 t.2.2.2.2.1.2.2.1, .int .i64 t.2.2.2.2.1.2.2.2.1, .int .i64 t.2.2.2.2.1.2.2.2.2, .slice A n c, .slice B p d] 34)).cell? ⟨w.heap.size, 8, none⟩ = some (.int .i64 t.2.2.2.2.1.2.2.2.2) := by simp
  have y9 : (w.alloc (.cells #[.int .i64 t.1, .int .i64 t.2.1, .int .i64 t.2.2.1, .int .i64 t.2.2.2.1, .int .i64 t.2.2.2.2.1.1, .int .i64 t.2.2.2.2.1.2.1, .int .i64 t.2.2.2.2.1.2.2.1, .int .i64 t.2.2.2.2.1.2.2.2.1, .int .i64 t.2.2.2.2.1.2.2.2.2, .slice A n c, .slice B p d] 34)).cell? ⟨w.heap.size, 9, none⟩ = some (.slice A n c) := by simp
  have y10 : (w.alloc (.cells #[.int .i64 t.1, .int .i64 t.2.1, .int .i64 t.2.2.1, .int .i64 t.2.2.2.1, .int .i64 t.2.2.2.2.1.1, .int .i64 t.2.2.2.2.1.2.1, .int .i64 t.2.2.2.2.1.2.2.1, .int .i64 t.2.2.2.2.1.2.2.2.1, .int .i64 t.2.2.2.2.1.2.2.2.2, .slice A n c, .slice B p d] 34)).cell? ⟨w.heap.size, 10, none⟩ = some (.slice B p d) := by simp
  have hl1 : w.heap.size < (w.alloc (.cells #[.int .i64 t.1, .int .i64 t.2.1, .int .i64 t.2.2.1, .int .i64 t.2.2.2.1, .int .i64 t.2.2.2.2.1.1, .int .i64 t.2.2.2.2.1.2.1, .int .i64 t.2.2.2.2.1.2.2.1, .int .i64 t.2.2.2.2.1.2.2.2.1, .int .i64 t.2.2.2.2.1.2.2.2.2, .slice A n c, .slice B p d] 34)).heap.size := by simp
  have hhA := Nat.le_trans hhi hzA
  cases e1 : okMsg t
  · have hp : Hid (asS (putMsg t) = asS []) := hide (by unfold putMsg; rw [e1]; rfl)
    go_enter Tryd.func5, Tryd.ntmps5
    go_wp2_with fail
    generalize w.alloc (.cells #[.int .i64 t.1, .int .i64 t.2.1, .int .i64 t.2.2.1, .int .i64 t.2.2.2.1, .int .i64 t.2.2.2.2.1.1, .int .i64 t.2.2.2.2.1.2.1, .int .i64 t.2.2.2.2.1.2.2.1, .int .i64 t.2.2.2.2.1.2.2.2.1, .int .i64 t.2.2.2.2.1.2.2.2.2, .slice A n c, .slice B p d] 34) = wa at *
    refine (l3Ok_c t A B n c p d lo hi _ g0 g1 hhA).mono ?_
    rintro e w1 ⟨rfl, hb1⟩
    rw [e1]
    go_wp2
    go_ret
    exact ⟨congrArg (fun v => Ending.returned (.string v)) hp.out.symm, hA.trans (hb1.mono hzA)⟩
  · have hp : Hid (asS (putMsg t) = asS (putM t)) := hide (by unfold putMsg; rw [e1]; rfl)
    go_enter Tryd.func5, Tryd.ntmps5
    go_wp2_with fail
    generalize w.alloc (.cells #[.int .i64 t.1, .int .i64 t.2.1, .int .i64 t.2.2.1, .int .i64 t.2.2.2.1, .int .i64 t.2.2.2.2.1.1, .int .i64 t.2.2.2.2.1.2.1, .int .i64 t.2.2.2.2.1.2.2.1, .int .i64 t.2.2.2.2.1.2.2.2.1, .int .i64 t.2.2.2.2.1.2.2.2.2, .slice A n c, .slice B p d] 34) = wa at *
    refine (l3Ok_c t A B n c p d lo hi _ g0 g1 hhA).mono ?_
    rintro e w1 ⟨rfl, hb1⟩
    rw [e1]
    have y0 := keepc hb1 y0
    have y1 := keepc hb1 y1
    have y2 := keepc hb1 y2
    have y3 := keepc hb1 y3
    have y4 := keepc hb1 y4
    have y5 := keepc hb1 y5
    have y6 := keepc hb1 y6
    have y7 := keepc hb1 y7
    have y8 := keepc hb1 y8
    have y9 := keepc hb1 y9
    have y10 := keepc hb1 y10
    have hB := hA.trans (hb1.mono hzA)
    have hl1 := Nat.lt_of_lt_of_le hl1 hb1.size
    go_wp2_with fail
    refine (l10Put_c t A B n c p d lo hi w1 (h0.below (flat_kept _) hB hhi) (h1.below vote_kept hB hhi) (Nat.le_trans hhi hB.size) hz e1).mono ?_
    rintro e w2 ⟨rfl, hb2⟩
    rw [← hp.out]
    go_wp2
    go_ret
    exact ⟨rfl, hB.trans (hb2.mono hB.size)⟩
end Go.Proofs.YtocifmnkohgfjaaDoor
