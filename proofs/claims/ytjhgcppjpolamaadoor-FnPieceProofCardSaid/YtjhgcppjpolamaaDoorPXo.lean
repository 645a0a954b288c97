/-
  'FnPieceProof': the law.
-/
import Derived.Test.YtjhgcppjpolamaaDoorPXoh
namespace Go.Proofs.YtjhgcppjpolamaaDoor
open Go.RowKit Rg
set_option linter.unusedVariables false
set_option linter.unusedSimpArgs false

set_option maxRecDepth 100000 in
set_option maxHeartbeats 16000000 in
theorem lawPieceProofD (A : Option Addr) (n c : Nat) (bs : List Int) (w : World) (hn : n = bs.length) (hc : n ≤ c) (hcm : c ≤ maxLen) (hs : Sl encU 1 w 0 w.heap.size A bs) (hb : ∀ b ∈ bs, 0 ≤ b ∧ b < 256) (ht : Tab w) :
    Calls Tryd.prog 8 #[.slice A n c] w fun e w' => e = .returned (.bool true) ∧ Below w.heap.size w w' := by
  by_cases hbig : 1048576 < n
  · have d1 : decide (1048576 < (n : Int)) = true := by simp only [decide_eq_true_eq]; omega
    go_enter Tryd.func8, Tryd.ntmps8
    go_wp2
    go_ret
    exact ⟨rfl, Below.refl _ _⟩
  · have d1 : decide (1048576 < (n : Int)) = false := by simp only [decide_eq_false_iff_not]; omega
    have hn' := hide hn
    clear hn
    go_enter Tryd.func8, Tryd.ntmps8
    go_wp2_with fail
    refine (DrawPieceProof_c A n c bs w hn'.out hc hcm hs hb).mono ?_
    rintro e w1 ⟨v, xs, at_, rfl, hl, hsum, ho, hb1⟩
    obtain ⟨A1, n1, c1, rfl, hn1⟩ := ho.shape
    have hcap := ho.cap
    have hcm1 := hcap.2
    unfold maxLen at hcm1
    have hsl := (ho.slAt encS_len).2.2
    have hn300 : n1 ≤ 300 := by have := hn1.out; omega
    have hpn := hide (proofR_len xs at_)
    have hpi := hide (proofR_i64 xs at_)
    have rot : ∀ (W : World), Below w1.heap.size w1 W → Calls Tryd.prog 19 #[.slice A1 n1 c1] W fun e w' => e = .returned (.int .i64 (rootR xs)) ∧ Below W.heap.size W w' := fun W hW =>
      PieceRoot_c A1 n1 c1 _ _ xs W hn1.out (by omega) hcap.1 (hsl.below hW (Nat.le_refl _)) hW.size ((ht.below hb1).below hW)
    have spf : ∀ (W : World), Below w1.heap.size w1 W → Calls Tryd.prog 24 #[.slice A1 n1 c1, .int .i64 at_] W fun e w' => ∃ v, e = .returned v ∧ Own encI 1 3 w' W.heap.size v (proofR xs at_) ∧ Below W.heap.size W w' := fun W hW =>
      specPieceProof_c A1 n1 c1 _ _ xs at_ W hn1.out (by omega) (hsl.below hW (Nat.le_refl _)) hW.size
    have rot' := hide rot
    have spf' := hide spf
    have hl1 := hide ho.lt
    clear rot spf
    go_wp2_with fail
    refine (PieceProof_c A1 n1 c1 _ _ xs at_ w1 hn1.out (by omega) hcap.1 hsl (Nat.le_refl _) (ht.below hb1)).mono ?_
    rintro e w2 ⟨v2, rfl, ho2, hb2⟩
    have hb2' := hide hb2
    have hB2 := hide (hb1.trans (hb2.mono hb1.size))
    obtain ⟨A2, n2, c2, rfl, hn2⟩ := ho2.shape
    have hcap2 := ho2.cap
    have hcm2 := hcap2.2
    unfold maxLen at hcm2
    go_wp2_with fail
    refine (spf'.out w2 hb2'.out).mono ?_
    rintro e w3 ⟨v3, rfl, ho3, hb3⟩
    have hb3' := hide (hb2'.out.trans (hb3.mono hb2'.out.size))
    have hB3 := hide (hB2.out.trans (hb3.mono hB2.out.size))
    obtain ⟨A3, n3, c3, rfl, hn3⟩ := ho3.shape
    have ho23 := ho2.below hb3 (Nat.le_refl _)
    go_wp2_with fail
    refine (wpSameI_c ho23 ho3 (by have := hpn.out; omega)).mono ?_
    rintro e w4 ⟨rfl, hb4⟩
    have hb4' := hide (hb3'.out.trans (hb4.mono hb3'.out.size))
    have hB4 := hide (hB3.out.trans (hb4.mono hB3.out.size))
    have ho24 := ho23.below hb4 (Nat.le_refl _)
    go_wp2_with fail
    refine (rot'.out w4 hb4'.out).mono ?_
    rintro e w5 ⟨rfl, hb5⟩
    have hb5' := hide (hb4'.out.trans (hb5.mono hb4'.out.size))
    have hB5 := hide (hB4.out.trans (hb5.mono hB4.out.size))
    have ho25 := ho24.below hb5 (Nat.le_refl _)
    by_cases hgood : okP xs ∧ 0 ≤ at_ ∧ at_ < (n1 : Int)
    · obtain ⟨hok, ha0, ha1⟩ := hgood
      have g1 : decide (rootR xs < 0) = false := by simp only [decide_eq_false_iff_not]; exact fun h => (rootR_neg.1 h) hok
      have g2 : decide (at_ < 0) = false := by simp only [decide_eq_false_iff_not]; omega
      have g3 : decide ((n1 : Int) ≤ at_) = false := by simp only [decide_eq_false_iff_not]; omega
      obtain ⟨i, rfl⟩ : ∃ i : Nat, at_ = (i : Int) := ⟨at_.toNat, by omega⟩
      have hin : i < n1 := by omega
      have hlx : i < xs.length := by have := hn1.out; omega
      have hck := hide (chkR_proof hok hlx)
      have hone := hide (proof_one hok hlx)
      have hok' := hide hok
      clear hok
      go_wp2_with fail
      refine (rot'.out w5 hb5'.out).mono ?_
      rintro e w6 ⟨rfl, hb6⟩
      have hb6' := hide (hb5'.out.trans (hb6.mono hb5'.out.size))
      have hB6 := hide (hB5.out.trans (hb6.mono hB5.out.size))
      have ho26 := ho25.below hb6 (Nat.le_refl _)
      have hsl25 := hide (ho25.slAt encI_len).2.2
      have hlw2 := hide ho2.lt
      have hsl26 : Hid (Sl encI 1 w6 0 w6.heap.size A2 (proofR xs (i : Int))) := hide ((ho26.slAt encI_len).2.2.mono (Nat.zero_le _) (Nat.le_refl _))
      obtain ⟨bx, offx, rfl, hbx1, hbx2⟩ := hsl.addr hlx
      have ax := (hsl.below hb6'.out (Nat.le_refl _)).str hlx
      have hck1 : Hid (chkR (rootR xs) (n1 : Int) (i : Int) xs[i] (proofR xs (i : Int)) = true) := hide (by have h9 := hck.out; rw [← hn1.out] at h9; exact h9)
      have hT6 := ht.below hB6.out
      have hxb : bx < w6.heap.size := by have := hb6'.out.size; omega
      have hmo : Hid (∀ q : List Int, q.length = ((proofR xs (i : Int))).length + 1 → chkR (rootR xs) (n1 : Int) (i : Int) xs[i] q = false) := hide (fun q hq => chkR_more hck1.out hq)
      have hi9 : Hid (∀ x ∈ (proofR xs (i : Int)) ++ [1], I64 x) := hide (fun x hx => by
        rcases List.mem_append.1 hx with hx | hx
        · exact hpi.out x hx
        · simp at hx; subst hx; unfold I64; omega)
      have hcase : ∃ bb : Bool, ((n1 : Int) == 1) = bb ∧ ((n2 : Int) == 0) = bb := by
        have h9 := hone.out
        rw [← hn1.out, ← hn2.out] at h9
        by_cases h : n1 = 1
        · exact ⟨true, by simp [h], by simp [h9.1 h]⟩
        · exact ⟨false, by simp only [beq_eq_false_iff_ne, ne_eq]; omega, by simp only [beq_eq_false_iff_ne, ne_eq]; have := fun h2 => h (h9.2 h2); omega⟩
      obtain ⟨bb, hb1q, hb2q⟩ := hcase
      have hbb : (bb == bb) = true := by simp
      have hn216 : n2 ≤ 16 := by have := hn2.out; have := hpn.out; omega
      go_wp2
      refine wp_region_O (Since _) [] [] [68, 72, 73] (Ord.seg [0, 1, 2, 3, 4, 5, 6, 7, 8, 9, 10, 11, 12, 13, 14, 15, 16, 17, 18, 19, 20, 21, 22, 23, 24, 25, 26, 27, 29] (Ord.both 28 31 (Ord.seg [] (Ord.both 30 31 (Ord.seg [31, 32, 33, 34, 35, 36] Ord.done) (Ord.seg [30, 32, 33, 34, 35, 36] Ord.done))) (Ord.seg [28, 30, 32, 33, 34, 35, 36] Ord.done))) (by kernel_rfl) (by kernel_rfl) (by kernel_rfl) (Since.drew _) ?_
      go_wp2_with (first
        | (go_at_call 13; refine (PieceCheck_c (rootR xs) (n1 : Int) (i : Int) xs[i] A9 n9 c9 w7.heap.size w9.heap.size ((proofR xs (i : Int)) ++ [1]) w9 hn9.out ho9.cap.1 ho9.cap.2 (by have := hn9.out; have := hpn.out; simp at *; omega) (ho9.slAt encI_len).2.2 (Nat.le_refl _) hi9.out (hT6.below (hb67.out.trans (hb79'.out.mono hb67.out.size)))).mono ?_; rintro e w10 ⟨rfl, hb10⟩; rw [hmo.out _ (by simp)]; have hS10 := since_of (hb67.out.trans ((hb79'.out.trans (hb10.mono hb79'.out.size)).mono hb67.out.size)))
        | (go_at_call 13; refine (PieceCheck_c (rootR xs) (n1 : Int) (i : Int) xs[i] A2 n2 c2 0 w6.heap.size (proofR xs (i : Int)) w6.drew hn2.out hcap2.1 hcap2.2 (by omega) hsl26.out (Nat.le_refl _) hpi.out hT6).mono ?_; rintro e w7 ⟨rfl, hb7⟩; rw [hck1.out]; have hb67 : Hid (Below w6.heap.size w6 w7) := hide ((Below.drew (Below.refl _ w6)).trans hb7); have hS7 := since_of hb67.out; have ax7 := keepc hb67.out ax; have ax := ax7; have hs27 := hide ((hsl26.out.below hb67.out (Nat.le_refl _)).mono (Nat.le_refl _) hb67.out.size))
        | ((with_reducible refine wpT_xs1 ?_ ?_ ?_); (focus exact wanted_yes _ _ _ rfl rfl rfl); (focus rfl); intro K hK; refine wp_appG encI_len (by omega) encI_one _ _ 22 rfl 3 _ 8 Tryd.underlying22 infoI rfl w7.heap.size _ [] rfl (own_empty encI 1 3 w7) 0 _ _ (proofR xs (i : Int)) _ _ rfl hn2.out (hs27.out.below (B := w7.heap.size) (((Below.refl w7.heap.size w7).alloc (Nat.le_refl _) (.cells #[] 3))) (Nat.le_refl _)) (by have := hpn.out; simp only [List.length_nil, maxLen]; omega) (by simp only [World.size_alloc]; omega) ?_; intro v8 w8 ho8 hg8 hb8 hloc8; (try simp only [List.nil_append] at ho8); have hb78 : Below w7.heap.size w7 w8 := Below.trans (((Below.refl w7.heap.size w7).alloc (Nat.le_refl _) (.cells #[] 3))) hb8; have hS8 := since_of (hb67.out.trans (hb78.mono hb67.out.size)); obtain ⟨A8, n8, c8, rfl, hn8⟩ := ho8.shape; have hslA := sl_oneI w8 1; have hb78' := hide hb78; clear hb78; have ax := keepc hb78'.out ax7; have hK := hK)
        | ((with_reducible refine wpT_xs1 ?_ ?_ ?_); (focus exact wanted_yes _ _ _ rfl rfl rfl); (focus rfl); intro K hK; refine wp_appG encI_len (by omega) encI_one _ _ 22 rfl 3 _ 8 Tryd.underlying22 infoI rfl w7.heap.size _ [] rfl ((own_empty encI 1 3 w7).alloc _) 0 _ _ (proofR xs (i : Int)) _ _ rfl hn2.out (hs27.out.below (B := w7.heap.size) ((((Below.refl w7.heap.size w7).alloc (Nat.le_refl _) (.cells #[] 3)).alloc (by simp) (.cells #[.int .i64 1] 3))) (Nat.le_refl _)) (by have := hpn.out; simp only [List.length_nil, maxLen]; omega) (by simp only [World.size_alloc]; omega) ?_; intro v8 w8 ho8 hg8 hb8 hloc8; (try simp only [List.nil_append] at ho8); have hb78 : Below w7.heap.size w7 w8 := Below.trans ((((Below.refl w7.heap.size w7).alloc (Nat.le_refl _) (.cells #[] 3)).alloc (by simp) (.cells #[.int .i64 1] 3))) hb8; have hS8 := since_of (hb67.out.trans (hb78.mono hb67.out.size)); obtain ⟨A8, n8, c8, rfl, hn8⟩ := ho8.shape; have hslA := hide (slK2 rfl hg8); have hb78' := hide hb78; clear hb78; have ax := keepc hb78'.out ax7; have hK := hK)
        | ((with_reducible refine wpT_xs1 ?_ ?_ ?_); (focus exact wanted_yes _ _ _ rfl rfl rfl); (focus rfl); intro K hK; refine wp_appG encI_len (by omega) encI_one _ _ 22 rfl 3 _ 8 Tryd.underlying22 infoI rfl w7.heap.size _ [] rfl (own_emptyK w7) 0 _ _ (proofR xs (i : Int)) _ _ rfl hn2.out (hs27.out.below (B := w7.heap.size) ((((Below.refl w7.heap.size w7).alloc (Nat.le_refl _) (.cells #[.int .i64 1] 3)).alloc (by simp) (.cells #[] 3))) (Nat.le_refl _)) (by have := hpn.out; simp only [List.length_nil, maxLen]; omega) (by simp only [World.size_alloc]; omega) ?_; intro v8 w8 ho8 hg8 hb8 hloc8; (try simp only [List.nil_append] at ho8); have hb78 : Below w7.heap.size w7 w8 := Below.trans ((((Below.refl w7.heap.size w7).alloc (Nat.le_refl _) (.cells #[.int .i64 1] 3)).alloc (by simp) (.cells #[] 3))) hb8; have hS8 := since_of (hb67.out.trans (hb78.mono hb67.out.size)); obtain ⟨A8, n8, c8, rfl, hn8⟩ := ho8.shape; have hslA := hide (slK3 rfl hg8); have hb78' := hide hb78; clear hb78; have ax := keepc hb78'.out ax7; have hK := hK)
        | ((with_reducible refine wpT_xs1 ?_ ?_ ?_); (focus exact wanted_yes _ _ _ rfl rfl rfl); (focus rfl); intro K hK; refine wp_appG encI_len (by omega) encI_one _ _ 22 rfl 3 _ 8 Tryd.underlying22 infoI rfl w7.heap.size _ (proofR xs (i : Int)) rfl (ho8.alloc _) 0 _ _ [1] _ _ rfl rfl hslA (by have := hpn.out; simp only [List.length_singleton, maxLen]; omega) (by have := hb78'.out.size; simp; try omega) ?_; intro v9 w9 ho9 hg9 hb9 hloc9; have hb79 : Below w7.heap.size w7 w9 := hb78'.out.trans (Below.trans (((Below.refl w8.heap.size w8).alloc (Nat.le_refl _) (.cells #[.int .i64 1] 3)).mono hb78'.out.size) hb9); have hS9 := since_of (hb67.out.trans (hb79.mono hb67.out.size)); obtain ⟨A9, n9, c9, rfl, hn9⟩ := ho9.shape; have hb79' := hide hb79; clear hb79; have ax := keepc hb79'.out ax7; have hK := hK)
        | ((with_reducible refine wpT_xs1 ?_ ?_ ?_); (focus exact wanted_yes _ _ _ rfl rfl rfl); (focus rfl); intro K hK; refine wp_appG encI_len (by omega) encI_one _ _ 22 rfl 3 _ 8 Tryd.underlying22 infoI rfl w7.heap.size _ (proofR xs (i : Int)) rfl ho8 0 _ _ [1] _ _ rfl rfl (hslA.out.mono (Nat.zero_le _) (Nat.le_refl _)) (by have := hpn.out; simp only [List.length_singleton, maxLen]; omega) (by have := hb78'.out.size; simp; try omega) ?_; intro v9 w9 ho9 hg9 hb9 hloc9; have hb79 : Below w7.heap.size w7 w9 := hb78'.out.trans (id hb9); have hS9 := since_of (hb67.out.trans (hb79.mono hb67.out.size)); obtain ⟨A9, n9, c9, rfl, hn9⟩ := ho9.shape; have hb79' := hide hb79; clear hb79; have ax := keepc hb79'.out ax7; have hK := hK)
        | ((with_reducible refine wpO_seg ?_); simp only [pickL, List.toList_toArray, List.getElem?_cons_succ, List.getElem?_cons_zero]) | ((with_reducible refine wpO_both ?_ ?_) <;> simp only [pickL, List.toList_toArray, List.getElem?_cons_succ, List.getElem?_cons_zero]) | ((with_reducible refine wpO_done ?_); try dsimp only) | (with_reducible refine Since.and_ ?_ ?_; (focus (repeat (first | (with_reducible exact Since.refl _) | assumption | (with_reducible refine Since.drewR ?_) | (with_reducible refine Since.alloc ?_ _) | ((with_reducible refine Since.setNew ?_ ?_ _); rotate_left; (focus (first | omega | (simp; done) | (simp; omega)))) | ((with_reducible apply Since.below); rotate_left; (focus assumption))))); intro hS) | ((with_reducible refine wpT_noL ?_ ?_); (focus (first | exact wanted_no _ _ _ rfl rfl rfl | exact wanted_un _ _ _ rfl rfl rfl)); simp only [setO, List.set_cons_succ, List.set_cons_zero]) | ((with_reducible refine wpT_q0 ?_ ?_ ?_ ?_); (focus rfl); (focus rfl); (focus rfl); intro K hK) | ((with_reducible refine wpT_q1 ?_ ?_ ?_ ?_); (focus exact wanted_yes _ _ _ rfl rfl rfl); (focus rfl); (focus rfl); intro K hK) | ((with_reducible refine wpT_i ?_ ?_); (focus (refine ⟨_, _, _, _, _, _, _, _, rfl, rfl, rfl, rfl, rfl, ?_⟩; omega)); intro K hK) | ((with_reducible refine wpT_iw ?_ ?_ ?_); (focus exact wanted_yes _ _ _ rfl rfl rfl); (focus (refine ⟨_, _, _, _, _, _, _, _, rfl, rfl, rfl, rfl, ?_⟩; omega)); intro K hK) | ((with_reducible apply wpT_len); (focus (first | exact .inl rfl | exact .inr (wanted_yes _ _ _ rfl rfl rfl))); (focus rfl); (focus rfl); (focus rfl); (focus (first | exact Tryd.underlying30 | exact Tryd.underlying22)); (try dsimp only)) | ((with_reducible apply wpT_l); (focus rfl); (focus rfl); (focus rfl); (focus rfl); (focus (first | exact Since.drew _ | assumption)); (focus (simp <;> omega)); (focus go_simp); intro K hK) | ((with_reducible apply wpT_lw); (focus exact wanted_yes _ _ _ rfl rfl rfl); (focus rfl); (focus rfl); (focus rfl); (focus (first | exact Since.drew _ | assumption)); (focus (simp <;> omega)); (focus go_simp); intro K hK) | ((with_reducible refine wpT_xs0 ?_ ?_ ?_); (focus rfl); (focus rfl); intro K hK) | ((with_reducible refine wpT_xs1 ?_ ?_ ?_); (focus exact wanted_yes _ _ _ rfl rfl rfl); (focus rfl); intro K hK) | ((with_reducible refine wpT_nil ?_); try dsimp only)
        | fail)
      all_goals go_ret
      all_goals exact ⟨rfl, hB6.out.trans ((hb67.out.trans ((hb79'.out.trans (hb10.mono hb79'.out.size)).mono hb67.out.size)).mono hB6.out.size)⟩
    · have hbad : (rootR xs < 0) ∨ (at_ < 0) ∨ ((n1 : Int) ≤ at_) := by
        by_cases h1 : okP xs
        · by_cases h2 : at_ < 0
          · exact .inr (.inl h2)
          · exact .inr (.inr (Int.not_lt.1 (fun h3 => hgood ⟨h1, by omega, h3⟩)))
        · exact .inl (rootR_neg.2 h1)
      have fin : ∀ (W : World), Below w4.heap.size w4 W → ∃ (v : Value), True := fun W _ => ⟨.bool true, trivial⟩
      clear fin
      have last : ∀ (W : World), Below w4.heap.size w4 W → Calls Tryd.prog 24 #[.slice A1 n1 c1, .int .i64 at_] W fun e w' => ∃ v, e = .returned v ∧ Own encI 1 3 w' W.heap.size v (proofR xs at_) ∧ Below W.heap.size W w' := fun W hW => spf'.out W (hb4'.out.trans (hW.mono hb4'.out.size))
      have last' := hide last
      clear last
      by_cases h1 : rootR xs < 0
      · have g1 : decide (rootR xs < 0) = true := by simpa using h1
        go_wp2_with fail
        refine (last'.out w5 hb5).mono ?_
        rintro e w6 ⟨v6, rfl, ho6, hb6⟩
        obtain ⟨A6, n6, c6, rfl, hn6⟩ := ho6.shape
        go_wp2_with fail
        refine (wpSameI_c (ho25.below hb6 (Nat.le_refl _)) ho6 (by have := hpn.out; omega)).mono ?_
        rintro e w7 ⟨rfl, hb7⟩
        go_wp2
        go_ret
        exact ⟨rfl, (hB5.out.trans (hb6.mono hB5.out.size)).trans (hb7.mono (Nat.le_trans hB5.out.size hb6.size))⟩
      · have g1 : decide (rootR xs < 0) = false := by simpa using h1
        by_cases h2 : at_ < 0
        · have g2 : decide (at_ < 0) = true := by simpa using h2
          go_wp2_with fail
          refine (last'.out w5 hb5).mono ?_
          rintro e w6 ⟨v6, rfl, ho6, hb6⟩
          obtain ⟨A6, n6, c6, rfl, hn6⟩ := ho6.shape
          go_wp2_with fail
          refine (wpSameI_c (ho25.below hb6 (Nat.le_refl _)) ho6 (by have := hpn.out; omega)).mono ?_
          rintro e w7 ⟨rfl, hb7⟩
          go_wp2
          go_ret
          exact ⟨rfl, (hB5.out.trans (hb6.mono hB5.out.size)).trans (hb7.mono (Nat.le_trans hB5.out.size hb6.size))⟩
        · have g2 : decide (at_ < 0) = false := by simpa using h2
          have g3 : decide ((n1 : Int) ≤ at_) = true := by simp only [decide_eq_true_eq]; omega
          go_wp2_with fail
          refine (last'.out w5 hb5).mono ?_
          rintro e w6 ⟨v6, rfl, ho6, hb6⟩
          obtain ⟨A6, n6, c6, rfl, hn6⟩ := ho6.shape
          go_wp2_with fail
          refine (wpSameI_c (ho25.below hb6 (Nat.le_refl _)) ho6 (by have := hpn.out; omega)).mono ?_
          rintro e w7 ⟨rfl, hb7⟩
          go_wp2
          go_ret
          exact ⟨rfl, (hB5.out.trans (hb6.mono hB5.out.size)).trans (hb7.mono (Nat.le_trans hB5.out.size hb6.size))⟩
end Go.Proofs.YtjhgcppjpolamaaDoor
