/-
  What 'FCe' rests on (texts of this seat put together: FCd).
  Conditions: none.
-/
import Derived.Test.YtopmbnnjhoinkaaZZ52
namespace Go.Proofs.Ytopmbnnjhoinkaa
open Go Go.RowKit Rg
set_option linter.unusedVariables false
set_option linter.unusedSimpArgs false
set_option maxHeartbeats 1000000
set_option maxRecDepth 100000 in
set_option maxHeartbeats 8000000 in
theorem lawClaims (A : Option Addr) (n c : Nat) (bs : List Int) (w : World) (hn : n = bs.length) (hc : n ≤ c) (hcm : c ≤ maxLen) (hs : Sl encU 1 w 0 w.heap.size A bs) (hb : ∀ b ∈ bs, 0 ≤ b ∧ b < 256) (A2 : Option Addr) (n2 c2 : Nat) (bs2 : List Int) (hn2 : n2 = bs2.length) (hc2 : n2 ≤ c2) (hcm2 : c2 ≤ maxLen) (hs2 : Sl encU 1 w 0 w.heap.size A2 bs2) (hb2 : ∀ b ∈ bs2, 0 ≤ b ∧ b < 256) :
    Calls Try.prog 3 #[.slice A n c, .slice A2 n2 c2] w fun e w' => e = .returned (.bool true) ∧ Below w.heap.size w w' := by
  have hn' := hide hn
  have hb' := hide hb
  have hn2' := hide hn2
  have hb2' := hide hb2
  clear hn hb hn2 hb2
  by_cases hbig : 1048576 < n
  · have d1 : decide (1048576 < (n : Int)) = true := by simp; omega
    go_enter Try.func3, Try.ntmps3
    go_wp2
    go_ret
    exact ⟨rfl, Below.refl _ _⟩
  have d1 : decide (1048576 < (n : Int)) = false := by simp; omega
  by_cases hbig2 : 1048576 < n2
  · have d2 : decide (1048576 < (n2 : Int)) = true := by simp; omega
    go_enter Try.func3, Try.ntmps3
    go_wp2
    go_ret
    exact ⟨rfl, Below.refl _ _⟩
  have d2 : decide (1048576 < (n2 : Int)) = false := by simp; omega
  go_enter Try.func3, Try.ntmps3
  go_wp2_with fail
  refine (DrawClaimReady_t A n c bs w hn'.out hc hcm hs hb'.out).mono ?_
  rintro e w1 ⟨c1, B, p, q, tk, rfl, htk, h2, hp, hT, hB1⟩
  obtain ⟨ts, r1, _⟩ := hT.rdM h2
  obtain ⟨ms, hml, hSl, _⟩ := hT.parts (by decide) h2
  have hs2' := hide ((hs2.below hB1 (Nat.le_refl _)).mono (Nat.le_refl _) hB1.size)
  have hlen := hide r1.len
  replace hml := hide hml
  have hS : St ⟨c1, w1, none⟩ 0 21000 6000000 c1 [] [] w1 := St.start hT (fun g hg => by cases hg)
  clear d1 d2 hs
  cases hr : readyI ts tk
  · cases hd : doneI ts tk
    · (try clear hc ht hv); (refine no_implicit_lambda% (fct ?_)); intro hc ht hv
      go_wp2_with (first
    | ((refine no_implicit_lambda% (hdE ?_)); intro K hK; (first
      | ((with_reducible refine at_dst 6 ?_ ?_); (focus rfl); (refine no_implicit_lambda% (alzC ?_)); (try clear hc ht hv); clear hS; intro b6 w hS hc ht hv)
      | ((with_reducible refine at_dst 10 ?_ ?_); (focus rfl); (refine no_implicit_lambda% (alzM ?_)); (try clear hc ht hv); clear hS; intro b10 w hS hc ht hv)
      | ((with_reducible refine at_dst 48 ?_ ?_); (focus rfl); ((refine no_implicit_lambda% (r0zMnoP ?_)); (try clear hc ht hv); clear hS; intro c b w hS hx; (try replace hrs := hrs.mono hx.le); (try replace hus := hus.mono hx.le); (try clear hx); intro hc ht hv))
      | ((with_reducible refine at_dst 52 ?_ ?_); (focus rfl); ((refine no_implicit_lambda% (r1zMnoP ?_)); (try clear hc ht hv); clear hS; intro c b w hS hx; (try replace hrs := hrs.mono hx.le); (try replace hus := hus.mono hx.le); (try clear hx); intro hc ht hv))
      | ((with_reducible refine at_dst 50 ?_ ?_); (focus rfl); ((refine no_implicit_lambda% (apzM ?_)); (try clear hc ht hv); clear hS; intro c A50 d50 w hS hx; (try replace hrs := hrs.mono hx.le); (try replace hus := hus.mono hx.le); (try clear hx); intro hc ht hv))
      | ((with_reducible refine at_dst 53 ?_ ?_); (focus rfl); ((refine no_implicit_lambda% (apzM ?_)); (try clear hc ht hv); clear hS; intro c A53 d53 w hS hx; (try replace hrs := hrs.mono hx.le); (try replace hus := hus.mono hx.le); (try clear hx); intro hc ht hv))
      | ((refine no_implicit_lambda% (sazC ?_)); (try clear hc ht hv); clear hS; intro w hS hc ht hv)
      | ((refine no_implicit_lambda% (sazM ?_)); (try clear hc ht hv); clear hS; intro w hS hc ht hv)))
    | (fail)
    | (go_at_call 6; (first | ((with_reducible show Calls _ _ #[.slice B p q, _] _ _); refine (ClaimReady_c B p q 0 w1.heap.size ts tk _ (r1.below msg_kept hS.fin.2.2 (Nat.le_refl _)) hS.base).mono ?_) | ((with_reducible show Calls _ _ #[.slice AA _ _, _] _ _); refine (ClaimReady_c AA _ dA 0 NA _ tk _ hxr hNA).mono ?_) | ((with_reducible show Calls _ _ #[.slice none 0 0, _] _ _); refine (ClaimReady_c none 0 0 0 0 [] tk _ (RdN.nil_ _ _ _ _ _ _ _ (by simp [maxLen])) (Nat.zero_le _)).mono ?_)); rintro e w ⟨rfl, hb⟩; (try replace hxr := hxr.below msg_kept hb hNA); (try replace hNA := Nat.le_trans hNA hb.size); replace hS := hS.past hb; clear hb; (try simp only [hr]); (try simp only [hd]); (try simp only [ready_more hr]); (try simp only [done_more hd]); (try simp only [ready_nil]); (try clear hc ht hv); (try dsimp only); (refine no_implicit_lambda% (fct ?_)); intro hc ht hv)
    | (go_at_call 7; (first | ((with_reducible show Calls _ _ #[.slice B p q, _] _ _); refine (ClaimDone_c B p q 0 w1.heap.size ts tk _ (r1.below msg_kept hS.fin.2.2 (Nat.le_refl _)) hS.base).mono ?_) | ((with_reducible show Calls _ _ #[.slice AA _ _, _] _ _); refine (ClaimDone_c AA _ dA 0 NA _ tk _ hxr hNA).mono ?_) | ((with_reducible show Calls _ _ #[.slice none 0 0, _] _ _); refine (ClaimDone_c none 0 0 0 0 [] tk _ (RdN.nil_ _ _ _ _ _ _ _ (by simp [maxLen])) (Nat.zero_le _)).mono ?_)); rintro e w ⟨rfl, hb⟩; (try replace hxr := hxr.below msg_kept hb hNA); (try replace hNA := Nat.le_trans hNA hb.size); replace hS := hS.past hb; clear hb; (try simp only [hr]); (try simp only [hd]); (try simp only [ready_more hr]); (try simp only [done_more hd]); (try simp only [ready_nil]); (try clear hc ht hv); (try dsimp only); (refine no_implicit_lambda% (fct ?_)); intro hc ht hv)
    | (go_at_call 8; (first | ((with_reducible show Calls _ _ #[.slice B p q, _] _ _); refine (specClaimReady_c B p q 0 w1.heap.size ts tk _ (r1.below msg_kept hS.fin.2.2 (Nat.le_refl _)) hS.base).mono ?_) | ((with_reducible show Calls _ _ #[.slice AA _ _, _] _ _); refine (specClaimReady_c AA _ dA 0 NA _ tk _ hxr hNA).mono ?_) | ((with_reducible show Calls _ _ #[.slice none 0 0, _] _ _); refine (specClaimReady_c none 0 0 0 0 [] tk _ (RdN.nil_ _ _ _ _ _ _ _ (by simp [maxLen])) (Nat.zero_le _)).mono ?_)); rintro e w ⟨rfl, hb⟩; (try replace hxr := hxr.below msg_kept hb hNA); (try replace hNA := Nat.le_trans hNA hb.size); replace hS := hS.past hb; clear hb; (try simp only [hr]); (try simp only [hd]); (try simp only [ready_more hr]); (try simp only [done_more hd]); (try simp only [ready_nil]); (try clear hc ht hv); (try dsimp only); (refine no_implicit_lambda% (fct ?_)); intro hc ht hv)
    | (go_at_call 9; (first | ((with_reducible show Calls _ _ #[.slice B p q, _] _ _); refine (specClaimDone_c B p q 0 w1.heap.size ts tk _ (r1.below msg_kept hS.fin.2.2 (Nat.le_refl _)) hS.base).mono ?_) | ((with_reducible show Calls _ _ #[.slice AA _ _, _] _ _); refine (specClaimDone_c AA _ dA 0 NA _ tk _ hxr hNA).mono ?_) | ((with_reducible show Calls _ _ #[.slice none 0 0, _] _ _); refine (specClaimDone_c none 0 0 0 0 [] tk _ (RdN.nil_ _ _ _ _ _ _ _ (by simp [maxLen])) (Nat.zero_le _)).mono ?_)); rintro e w ⟨rfl, hb⟩; (try replace hxr := hxr.below msg_kept hb hNA); (try replace hNA := Nat.le_trans hNA hb.size); replace hS := hS.past hb; clear hb; (try simp only [hr]); (try simp only [hd]); (try simp only [ready_more hr]); (try simp only [done_more hd]); (try simp only [ready_nil]); (try clear hc ht hv); (try dsimp only); (refine no_implicit_lambda% (fct ?_)); intro hc ht hv)
    | (go_at_call 10; refine (DrawSaidHas_t A2 n2 c2 bs2 _ hn2'.out hc2 hcm2 ((hs2'.out.below hS.fin.2.2 (Nat.le_refl _)).mono (Nat.le_refl _) hS.base) hb2'.out).mono ?_; rintro e w hPD; (obtain ⟨c, Bx, px, qx, us, rfl, hus, hx, hT', hb⟩ := hPD.frame hS.tw (Nat.le_refl _) (Nat.le_refl _)); replace hS := hS.below hx hT' (Nat.le_refl _) (Nat.le_refl _) hb; clear hPD hx hT' hb; (try clear hc ht hv); (obtain ⟨_, _, _, _, _, _, _, _, _, _, _, rfl, _, _, _, _, _⟩ := hus.msg); (try dsimp only); (refine no_implicit_lambda% (fct ?_)); intro hc ht hv)
    | ((refine no_implicit_lambda% (rglawsFnClaims9 ?_)); (try clear hc ht hv); clear hS; intro hS hc ht hv)
    | ((with_reducible refine wpOF_both ?_ ?_) <;> (refine no_implicit_lambda% (pk_ ?_))) | ((with_reducible refine wpOF_three ?_ ?_ ?_) <;> (refine no_implicit_lambda% (pk_ ?_))) | ((with_reducible refine MS.and_ ?_ ?_); (focus (exact msA)); intro hM) | (refine no_implicit_lambda% (ofS ?_)) | ((refine no_implicit_lambda% (ofK ?_)); intro K hK) | (refine no_implicit_lambda% (ofL ?_)) | ((refine no_implicit_lambda% (ofM ?_)); intro K hK) | ((refine no_implicit_lambda% (ofX ?_)); intro K hK) | (refine no_implicit_lambda% (ofN ?_)) | ((with_reducible apply wpT_split); (focus rfl); (focus rfl); (focus rfl); all_goals (intro hxx; simp only [hxx]))
    | fail)
      all_goals (go_ret; exact ⟨rfl, hB1.trans (hS.fin.2.2.mono hB1.size)⟩)
    · rw [done_ready hd] at hr
      cases hr
  · have hp0 : 0 < p := by
      rcases Nat.eq_zero_or_pos p with h | h
      · have h0 : ts = [] := List.eq_nil_of_length_eq_zero (by rw [← hlen.out]; exact h)
        rw [h0, ready_nil] at hr
        cases hr
      · exact h
    cases hd : doneI ts tk
    all_goals
      (try clear hc ht hv); (refine no_implicit_lambda% (fct ?_)); intro hc ht hv
      go_wp2_with (first
    | ((refine no_implicit_lambda% (hdE ?_)); intro K hK; (first
      | ((with_reducible refine at_dst 50 ?_ ?_); (focus rfl); (with_reducible apply wp_appK hS _); (focus rfl); (focus exact Try.underlying23); (focus rfl); (focus (first | exact ix0 | exact ix1 | exact ix2 | exact ix3 | exact ix4 | exact ix5 | exact ix6)); (focus rfl); (focus exact inM); (focus exact zoM); (focus decide); (focus (exact slA)); (focus exact hS.own0 (by first | exact ix0 | exact ix1 | exact ix2 | exact ix3 | exact ix4 | exact ix5 | exact ix6)); (focus exact hml.out); (focus exact ((hSl.below hS.fin.2.2 (Nat.le_refl _)).mono (Nat.le_refl _) hS.base)); (focus omega); (focus (unfold maxLen; omega)); (try clear hc ht hv); clear hS; intro c A50 d50 w hS hO50; (try simp only [List.set_cons_zero, List.set_cons_succ, Nat.zero_add, List.nil_append] at hS); (simp only [List.nil_append, Nat.zero_add] at hO50); (refine no_implicit_lambda% (fct ?_)); intro hc ht hv)
      | ((with_reducible refine at_dst 52 ?_ ?_); (focus rfl); (with_reducible apply wp_row1B hS (fun y => y = _)); (focus rfl); (focus rfl); (focus exact Try.underlying23); (focus exact inM); (focus rfl); (focus decide); (focus (exact tyA)); (focus exact rfl); (try clear hc ht hv); clear hS; intro c b52 w hS hx hbl; (try replace hO50 := hO50.below hbl (Nat.le_refl _)); clear hbl hx; (refine no_implicit_lambda% (fct ?_)); intro hc ht hv)
      | ((with_reducible refine at_dst 53 ?_ ?_); (focus rfl); (first | (obtain ⟨mc, hmc, hmS⟩ := hS.part1 (j := 0) rfl) | (obtain ⟨mc, hmc, hmS⟩ := hS.part1 (j := 1) rfl)); (with_reducible apply wp_appK hS _); (focus rfl); (focus exact Try.underlying23); (focus rfl); (focus (first | exact ix0 | exact ix1 | exact ix2 | exact ix3 | exact ix4 | exact ix5 | exact ix6)); (focus rfl); (focus exact inM); (focus exact zoM); (focus decide); (focus (exact slA)); (focus exact hO50); (focus exact (rfl : [mc].length = 1)); (focus exact hmS); (focus decide); (focus (unfold maxLen; omega)); (try clear hc ht hv); clear hS; intro c AA dA w hS hOA; (try simp only [List.set_cons_zero, List.set_cons_succ, Nat.zero_add, List.nil_append] at hS); (obtain ⟨mm, hmm⟩ := hS.tw.msgM (hS.ty 0 rfl)); (obtain ⟨NA, hNA, hxr⟩ : ∃ NA, NA ≤ w.heap.size ∧ RdN 11 msgR w 0 NA AA (p + 1) dA (ts ++ [mm]) := ⟨_, Nat.le_refl _, rdn_own r1 hml.out hSl (by rw [hmc]; exact hmm) hS.fin.2.2 hOA rfl⟩); clear hmm hmS hmc hOA hO50; (refine no_implicit_lambda% (fct ?_)); intro hc ht hv)
      | ((with_reducible refine at_dst 6 ?_ ?_); (focus rfl); (refine no_implicit_lambda% (alzC ?_)); (try clear hc ht hv); clear hS; intro b6 w hS hc ht hv)
      | ((with_reducible refine at_dst 10 ?_ ?_); (focus rfl); (refine no_implicit_lambda% (alzM ?_)); (try clear hc ht hv); clear hS; intro b10 w hS hc ht hv)
      | ((with_reducible refine at_dst 48 ?_ ?_); (focus rfl); ((refine no_implicit_lambda% (r0zMnoP ?_)); (try clear hc ht hv); clear hS; intro c b w hS hx; (try replace hrs := hrs.mono hx.le); (try replace hus := hus.mono hx.le); (try clear hx); intro hc ht hv))
      | ((with_reducible refine at_dst 52 ?_ ?_); (focus rfl); ((refine no_implicit_lambda% (r1zMnoP ?_)); (try clear hc ht hv); clear hS; intro c b w hS hx; (try replace hrs := hrs.mono hx.le); (try replace hus := hus.mono hx.le); (try clear hx); intro hc ht hv))
      | ((with_reducible refine at_dst 50 ?_ ?_); (focus rfl); ((refine no_implicit_lambda% (apzM ?_)); (try clear hc ht hv); clear hS; intro c A50 d50 w hS hx; (try replace hrs := hrs.mono hx.le); (try replace hus := hus.mono hx.le); (try clear hx); intro hc ht hv))
      | ((with_reducible refine at_dst 53 ?_ ?_); (focus rfl); ((refine no_implicit_lambda% (apzM ?_)); (try clear hc ht hv); clear hS; intro c A53 d53 w hS hx; (try replace hrs := hrs.mono hx.le); (try replace hus := hus.mono hx.le); (try clear hx); intro hc ht hv))
      | ((refine no_implicit_lambda% (sazC ?_)); (try clear hc ht hv); clear hS; intro w hS hc ht hv)
      | ((refine no_implicit_lambda% (sazM ?_)); (try clear hc ht hv); clear hS; intro w hS hc ht hv)))
    | (fail)
    | (go_at_call 6; (first | ((with_reducible show Calls _ _ #[.slice B p q, _] _ _); refine (ClaimReady_c B p q 0 w1.heap.size ts tk _ (r1.below msg_kept hS.fin.2.2 (Nat.le_refl _)) hS.base).mono ?_) | ((with_reducible show Calls _ _ #[.slice AA _ _, _] _ _); refine (ClaimReady_c AA _ dA 0 NA _ tk _ hxr hNA).mono ?_) | ((with_reducible show Calls _ _ #[.slice none 0 0, _] _ _); refine (ClaimReady_c none 0 0 0 0 [] tk _ (RdN.nil_ _ _ _ _ _ _ _ (by simp [maxLen])) (Nat.zero_le _)).mono ?_)); rintro e w ⟨rfl, hb⟩; (try replace hxr := hxr.below msg_kept hb hNA); (try replace hNA := Nat.le_trans hNA hb.size); replace hS := hS.past hb; clear hb; (try simp only [hr]); (try simp only [hd]); (try simp only [ready_more hr]); (try simp only [done_more hd]); (try simp only [ready_nil]); (try clear hc ht hv); (try dsimp only); (refine no_implicit_lambda% (fct ?_)); intro hc ht hv)
    | (go_at_call 7; (first | ((with_reducible show Calls _ _ #[.slice B p q, _] _ _); refine (ClaimDone_c B p q 0 w1.heap.size ts tk _ (r1.below msg_kept hS.fin.2.2 (Nat.le_refl _)) hS.base).mono ?_) | ((with_reducible show Calls _ _ #[.slice AA _ _, _] _ _); refine (ClaimDone_c AA _ dA 0 NA _ tk _ hxr hNA).mono ?_) | ((with_reducible show Calls _ _ #[.slice none 0 0, _] _ _); refine (ClaimDone_c none 0 0 0 0 [] tk _ (RdN.nil_ _ _ _ _ _ _ _ (by simp [maxLen])) (Nat.zero_le _)).mono ?_)); rintro e w ⟨rfl, hb⟩; (try replace hxr := hxr.below msg_kept hb hNA); (try replace hNA := Nat.le_trans hNA hb.size); replace hS := hS.past hb; clear hb; (try simp only [hr]); (try simp only [hd]); (try simp only [ready_more hr]); (try simp only [done_more hd]); (try simp only [ready_nil]); (try clear hc ht hv); (try dsimp only); (refine no_implicit_lambda% (fct ?_)); intro hc ht hv)
    | (go_at_call 8; (first | ((with_reducible show Calls _ _ #[.slice B p q, _] _ _); refine (specClaimReady_c B p q 0 w1.heap.size ts tk _ (r1.below msg_kept hS.fin.2.2 (Nat.le_refl _)) hS.base).mono ?_) | ((with_reducible show Calls _ _ #[.slice AA _ _, _] _ _); refine (specClaimReady_c AA _ dA 0 NA _ tk _ hxr hNA).mono ?_) | ((with_reducible show Calls _ _ #[.slice none 0 0, _] _ _); refine (specClaimReady_c none 0 0 0 0 [] tk _ (RdN.nil_ _ _ _ _ _ _ _ (by simp [maxLen])) (Nat.zero_le _)).mono ?_)); rintro e w ⟨rfl, hb⟩; (try replace hxr := hxr.below msg_kept hb hNA); (try replace hNA := Nat.le_trans hNA hb.size); replace hS := hS.past hb; clear hb; (try simp only [hr]); (try simp only [hd]); (try simp only [ready_more hr]); (try simp only [done_more hd]); (try simp only [ready_nil]); (try clear hc ht hv); (try dsimp only); (refine no_implicit_lambda% (fct ?_)); intro hc ht hv)
    | (go_at_call 9; (first | ((with_reducible show Calls _ _ #[.slice B p q, _] _ _); refine (specClaimDone_c B p q 0 w1.heap.size ts tk _ (r1.below msg_kept hS.fin.2.2 (Nat.le_refl _)) hS.base).mono ?_) | ((with_reducible show Calls _ _ #[.slice AA _ _, _] _ _); refine (specClaimDone_c AA _ dA 0 NA _ tk _ hxr hNA).mono ?_) | ((with_reducible show Calls _ _ #[.slice none 0 0, _] _ _); refine (specClaimDone_c none 0 0 0 0 [] tk _ (RdN.nil_ _ _ _ _ _ _ _ (by simp [maxLen])) (Nat.zero_le _)).mono ?_)); rintro e w ⟨rfl, hb⟩; (try replace hxr := hxr.below msg_kept hb hNA); (try replace hNA := Nat.le_trans hNA hb.size); replace hS := hS.past hb; clear hb; (try simp only [hr]); (try simp only [hd]); (try simp only [ready_more hr]); (try simp only [done_more hd]); (try simp only [ready_nil]); (try clear hc ht hv); (try dsimp only); (refine no_implicit_lambda% (fct ?_)); intro hc ht hv)
    | (go_at_call 10; refine (DrawSaidHas_t A2 n2 c2 bs2 _ hn2'.out hc2 hcm2 ((hs2'.out.below hS.fin.2.2 (Nat.le_refl _)).mono (Nat.le_refl _) hS.base) hb2'.out).mono ?_; rintro e w hPD; (obtain ⟨c, Bx, px, qx, us, rfl, hus, hx, hT', hb⟩ := hPD.frame hS.tw (Nat.le_refl _) (Nat.le_refl _)); replace hS := hS.below hx hT' (Nat.le_refl _) (Nat.le_refl _) hb; clear hPD hx hT' hb; (try clear hc ht hv); (obtain ⟨_, _, _, _, _, _, _, _, _, _, _, rfl, _, _, _, _, _⟩ := hus.msg); (try dsimp only); (refine no_implicit_lambda% (fct ?_)); intro hc ht hv)
    | ((refine no_implicit_lambda% (rglawsFnClaims9 ?_)); (try clear hc ht hv); clear hS; intro hS hc ht hv)
    | ((with_reducible refine wpOF_both ?_ ?_) <;> (refine no_implicit_lambda% (pk_ ?_))) | ((with_reducible refine wpOF_three ?_ ?_ ?_) <;> (refine no_implicit_lambda% (pk_ ?_))) | ((with_reducible refine MS.and_ ?_ ?_); (focus (exact msA)); intro hM) | (refine no_implicit_lambda% (ofS ?_)) | ((refine no_implicit_lambda% (ofK ?_)); intro K hK) | (refine no_implicit_lambda% (ofL ?_)) | ((refine no_implicit_lambda% (ofM ?_)); intro K hK) | ((refine no_implicit_lambda% (ofX ?_)); intro K hK) | (refine no_implicit_lambda% (ofN ?_)) | ((with_reducible apply wpT_split); (focus rfl); (focus rfl); (focus rfl); all_goals (intro hxx; simp only [hxx]))
    | fail)
      all_goals (go_ret; exact ⟨rfl, hB1.trans (hS.fin.2.2.mono hB1.size)⟩)
end Go.Proofs.Ytopmbnnjhoinkaa
