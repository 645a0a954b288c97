/-
  'FnPieceTake': the law.
-/
import Derived.Test.YtjhgcppjpolamaaDoorPYe
import Derived.Test.YtjhgcppjpolamaaDoorPF
namespace Go.Proofs.YtjhgcppjpolamaaDoor
open Go.RowKit Rg
set_option linter.unusedVariables false
set_option linter.unusedSimpArgs false

theorem takeR_true {root many : Int} {ts : List PieceT} (h : (takeR root many ts).2 = true) : takeOk root many ts ∧ okP (txts ts) ∧ (takeR root many ts).1 = catS (txts ts) := by
  by_cases h1 : takeOk root many ts
  · rw [takeR_yes h1] at h ⊢
    unfold joinR at h ⊢
    split at h
    · rename_i h2
      rw [if_pos h2]
      exact ⟨h1, h2, rfl⟩
    · simp at h
  · rw [takeR_no h1] at h
    simp at h
set_option maxRecDepth 100000 in
set_option maxHeartbeats 2000000 in
theorem lawPieceTakeD (A : Option Addr) (n c : Nat) (bs : List Int) (w : World) (hn : n = bs.length) (hc : n ≤ c) (hcm : c ≤ maxLen) (hs : Sl encU 1 w 0 w.heap.size A bs) (hb : ∀ b ∈ bs, 0 ≤ b ∧ b < 256) (ht : Tab w) :
    Calls Tryd.prog 10 #[.slice A n c] w fun e w' => e = .returned (.bool true) ∧ Below w.heap.size w w' := by
  by_cases hbig : 1048576 < n
  · have d1 : decide (1048576 < (n : Int)) = true := by simp only [decide_eq_true_eq]; omega
    go_enter Tryd.func10, Tryd.ntmps10
    go_wp2
    go_ret
    exact ⟨rfl, Below.refl _ _⟩
  · have d1 : decide (1048576 < (n : Int)) = false := by simp only [decide_eq_false_iff_not]; omega
    have hn' := hide hn
    clear hn
    go_enter Tryd.func10, Tryd.ntmps10
    go_wp2_with fail
    refine (DrawPieceTake_c A n c bs w hn'.out hc hcm hs hb).mono ?_
    rintro e w1 ⟨root, many, A1, n1, c1, ts, rfl, hsz, hrd, hb1⟩
    have hT1 := ht.below hb1
    go_wp2_with fail
    refine (PieceTake_c root many A1 n1 c1 _ _ ts w1 hrd (Nat.le_refl _) hsz hT1).mono ?_
    rintro e w2 ⟨rfl, hb2⟩
    have hB2 := hb1.trans (hb2.mono hb1.size)
    go_wp2_with fail
    refine (specPieceTake_c root many A1 n1 c1 _ _ ts w2 (hrd.below piece_kept hb2 (Nat.le_refl _)) hb2.size hsz).mono ?_
    rintro e w3 ⟨rfl, hb3⟩
    have hB3 := hB2.trans (hb3.mono hB2.size)
    have hb13 := hb2.trans (hb3.mono hb2.size)
    have hr3 := (hrd.below piece_kept hb13 (Nat.le_refl _)).mono piece_kept (Nat.le_refl _) hb13.size
    have hT3 := ht.below hB3
    have hyes := hide (@takeR_true root many ts)
    generalize takeR root many ts = r at *
    obtain ⟨rs, rb⟩ := r
    have q1 : (rs.toList != rs.toList) = false := by simp
    have q2 : (rs.toList == rs.toList) = true := by simp
    cases rb
    · have q3 : (false != false) = false := by decide
      have q4 : (false == false) = true := by decide
      go_wp2
      go_ret
      exact ⟨rfl, hB3⟩
    · obtain ⟨hok, hokP, hcat⟩ := hyes.out rfl
      obtain ⟨hin, hlen, hall⟩ := hok
      have hcat' := hide (show rs = catS (txts ts) from hcat)
      have hokP' := hide hokP
      have hlm : Hid ((n1 : Int) = many) := hide (by rw [hrd.len]; exact hlen)
      have hm1 : (1 : Int) ≤ many ∧ many ≤ 16 := by simpa [inB] using hin
      have hall' := hide hall
      have q3 : (true != true) = false := by decide
      have hn1 : n1 ≤ 16 := by have := hlm.out; omega
      have hnt := hide hrd.len
      have hszh := hide hsz
      have hb0 := (Below.refl w3.heap.size w3).alloc (Nat.le_refl _) (.cells #[] 9)
      have ho0 := own_empty encS 1 9 w3
      have hrs : rs.size ≤ 1048576 := by rw [hcat'.out, cat_size]; have h1 := txts_sum ts; have h2 := hsz; unfold szPieces at h2; omega
      have hpc : Hid (pieces rs = txts ts) := hide (by rw [hcat'.out]; exact ((okP_iff _).1 hokP'.out).2)
      clear hcat hokP hlen hall hin hsz hrd
      go_wp2
      go_loopw [10, 11] (fun tv iv wr => ∃ (k : Nat) (v : Value), k ≤ n1 ∧ iv = .int .i64 (k : Int) ∧ v = tv ∧ Own encS 1 9 wr w3.heap.size v (txts (ts.take k)) ∧ Below w3.heap.size w3 wr) (fun _ iv _ => n1 - (intOf iv).toNat)
      case atStart => exact ⟨0, _, Nat.zero_le _, rfl, rfl, by rw [List.take_zero]; exact ho0, hb0⟩
      case round =>
        obtain ⟨k, v, hk, rfl, rfl, ho, hbr⟩ := hrel
        have hzr := hbr.size
        by_cases hlt : k < n1
        · have hlx : k < ts.length := by have := hnt.out; omega
          have hrr := hr3.below piece_kept hbr (Nat.le_refl _)
          obtain ⟨b, off, rfl, hlo, hbh⟩ := hr3.addr hlx
          obtain ⟨A9, n9, c9, a0, a1, a2, r0, pg0⟩ := hrr.piece hlx
          have hsum := hide (sum_at szPiece ts k hlx)
          have hl1 : n9 ≤ 1048576 := by have h1 := r0.len; have h2 := hsum.out; have h3 := hszh.out; have h4 : szPiece ts[k] = ts[k].2.1.size + ts[k].2.2.length := rfl; unfold szPieces at h3; omega
          have hck : Hid (chkR root many (k : Int) ts[k].2.1 ts[k].2.2 = true) := hide (hall'.out k hlx).2
          have hTr := ht.below (hB3.trans (hbr.mono hB3.size))
          have hcall := hide (PieceCheck_c root many (k : Int) ts[k].2.1 A9 n9 c9 _ _ ts[k].2.2 wr.drew r0.len r0.cap r0.max hl1 (r0.sl.below (Below.drew (Below.refl wr.heap.size wr)) hzr) hzr pg0.2.2 hTr)
          have hxs := hide (txts_take ts k hlx)
          have hxn := hide (txts_len (ts.take k))
          have hxk : (ts.take k).length = k := by simp; omega
          have hbl : b < wr.heap.size := by omega
          go_wp2
          refine wp_region_T (fun _ => True) [] [] [] [0, 1, 2, 3, 4, 5, 6, 7, 8, 9, 10, 11, 12, 13, 14] (by kernel_rfl) (by kernel_rfl) (by kernel_rfl) trivial ?_; simp only [pickL, List.getElem?_cons_succ, List.getElem?_cons_zero]
          go_wp2_with (first
            | (go_at_call 13; refine hcall.out.mono ?_; rintro e w4 ⟨rfl, hb4⟩; rw [hck.out]; have hb4' : Below wr.heap.size wr w4 := (Below.drew (Below.refl _ wr)).trans hb4; have a1 := keepc hb4' a1; have hoB := ho.below hb4' (Nat.le_refl _); have hbl := Nat.lt_of_lt_of_le hbl hb4'.size; have hz4 := hb4'.size)
            | ((with_reducible refine wpT_q0 ?_ ?_ ?_ ?_); (focus rfl); (focus rfl); (focus rfl); intro K hK) | ((with_reducible refine wpT_x0 ?_ ?_ ?_); (focus rfl); (focus rfl); intro K hK) | ((with_reducible refine wpT_noL ?_ ?_); (focus (first | exact wanted_no _ _ _ rfl rfl rfl | exact wanted_un _ _ _ rfl rfl rfl)); simp only [setO, List.set_cons_succ, List.set_cons_zero]) | ((with_reducible refine wpT_q1 ?_ ?_ ?_ ?_); (focus exact wanted_yes _ _ _ rfl rfl rfl); (focus rfl); (focus rfl); intro K hK) | ((with_reducible refine wpT_x1 ?_ ?_ ?_); (focus exact wanted_yes _ _ _ rfl rfl rfl); (focus rfl); intro K hK) | ((with_reducible refine wpT_nil ?_); try dsimp only)
            | (at_builtin; refine wpList_app encS_len (by omega) encS_one rfl _ _ 30 rfl 9 _ 16 Tryd.underlying30 infoS rfl w3.heap.size _ (txts (ts.take k)) rfl (hoB.alloc _) 0 _ _ [ts[k].2.1] _ _ rfl rfl (sl_arr encS_len w4 #[.string ts[k].2.1] 9 [ts[k].2.1] rfl |>.mono (Nat.zero_le _) (Nat.le_refl _)) ?h2 ?h3 ?_)
            | fail)
          case h2 => have := hxn.out; simp [maxLen]; omega
          case h3 => simp; omega
          intro v5 w5 ho5 hg5 hb5
          have hb5' : Below w3.heap.size w4 w5 := ((Below.refl w4.heap.size w4).alloc (Nat.le_refl _) _ |>.mono (by omega)).trans hb5
          rw [← hxs.out] at ho5
          go_wp2
          go_roundw
          case rel => exact ⟨k + 1, v5, by omega, by go_num, rfl, ho5, hbr.trans ((hb4'.mono hzr).trans hb5')⟩
          case measure => simp [intOf]; omega
        · obtain rfl : k = n1 := by omega
          have hfull : Hid (txts (ts.take k) = txts ts) := hide (by rw [List.take_of_length_le (Nat.le_of_eq hnt.out.symm)])
          rw [hfull.out] at ho
          obtain ⟨A', n', c', rfl, hn2⟩ := ho.shape
          have hn2k : n' = k := by have h1 := hn2.out; have h2 := txts_len ts; have h3 := hnt.out; omega
          subst hn2k
          have hBr := hB3.trans (hbr.mono hB3.size)
          have hlmq : ((n' : Int) == many) = true := by have := hlm.out; simp only [beq_iff_eq]; exact this
          have htl := hide (txts_len ts)
          go_wp2_with fail
          refine (PieceOf_c rs wr hrs).mono ?_
          rintro e w4 ⟨v4, rfl, ho4, hb4⟩
          rw [hpc.out] at ho4
          have ho' := ho.below hb4 (Nat.le_refl _)
          obtain ⟨A4, n4, c4, rfl, hn4⟩ := ho4.shape
          go_wp2_with fail
          refine (wpSameS_c ho4 ho' (by have := htl.out; have := hnt.out; omega)).mono ?_
          rintro e w5 ⟨rfl, hb5⟩
          go_wp2
          go_ret
          exact ⟨rfl, hBr.trans ((hb4.trans (hb5.mono hb4.size)).mono hBr.size)⟩
end Go.Proofs.YtjhgcppjpolamaaDoor
