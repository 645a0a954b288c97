/-
  What 'FVd' rests on (texts of this seat put together: FVb FVc).
  Conditions: none.
-/
import Derived.Test.YtopmbnnjhoinkaaVV53
import Derived.Test.YtopmbnnjhoinkaaVV54
namespace Go.Proofs.Ytopmbnnjhoinkaa
open Go Go.RowKit Rg
set_option linter.unusedVariables false
set_option linter.unusedSimpArgs false
set_option maxHeartbeats 1000000
theorem bare_of {w : World} {B : Option Addr} {p q : Nat} {ts : List MsgT} {ls : List (Cs (isz tM))} (h0 : RdN 11 msgR w 0 w.heap.size B p q ts) (hO : Own Cs.val (isz tM) tM w 0 (.slice B p q) ls) (hP : ∀ y ∈ ls, bareP y.val) : bareTurns ts := by
  obtain ⟨A2, c2, hq, hc1, hc2, hs2⟩ := hO.sl Cs.len
  injection hq with q1 q2 q3
  subst q1; subst q3
  have hlen := h0.len
  intro x hx h5
  obtain ⟨i, hi, rfl⟩ := List.mem_iff_getElem.1 hx
  have hi' : i < ls.length := by rw [← q2, hlen]; exact hi
  obtain ⟨A, n, d, B', p', q', hu, h1, h2⟩ := rdn_elem h0 hs2 hi hi'
  have hb := hP _ (List.getElem_mem hi')
  rw [hu] at hb
  obtain ⟨b1, b2, b3, b4, b5, b6, b7⟩ := hb h5
  subst b7
  refine ⟨b1, ?_, List.eq_nil_of_length_eq_zero h2.len.symm⟩
  exact Prod.ext b2 (Prod.ext b3 (Prod.ext b4 (Prod.ext b5 b6)))
theorem any_of {c : Cx} {w : World} {B : Option Addr} {p q : Nat} {vs : List VoteT} (hT : TW 21000 6000000 c w) (h2 : SlV c tM (.slice B p q)) (hv : ∀ v ∈ vs, OkVote v) : ∀ v ∈ vs, ∀ k ∈ v.2, AnyReady B p q w k := by
  intro v hv1 k hk _ W hW
  have hq : TyE 21000 6000000 c tC [.int .i64 k.1, .int .i64 k.2.1, .int .i64 k.2.2.1, .int .i64 k.2.2.2.1, .int .i64 k.2.2.2.2.1, .int .i64 k.2.2.2.2.2.1, .int .i64 k.2.2.2.2.2.2] := by
    simp only [tyC, tys_cons, tys_nil, ok_any, ok_le, and_true, true_and]
    exact (hv v hv1).2 k hk
  refine (l4Ready_t (hT.below hW) h2 hq).mono ?_
  rintro e w' ⟨b, rfl, hb⟩
  exact ⟨b, rfl, trivial, hb⟩
set_option maxRecDepth 100000 in
set_option maxHeartbeats 8000000 in
theorem lawVotes (A : Option Addr) (n c : Nat) (bs : List Int) (w : World) (hn : n = bs.length) (hc : n ≤ c) (hcm : c ≤ maxLen) (hs : Sl encU 1 w 0 w.heap.size A bs) (hb : ∀ b ∈ bs, 0 ≤ b ∧ b < 256) (A2 : Option Addr) (n2 c2 : Nat) (bs2 : List Int) (hn2 : n2 = bs2.length) (hc2 : n2 ≤ c2) (hcm2 : c2 ≤ maxLen) (hs2 : Sl encU 1 w 0 w.heap.size A2 bs2) (hb2 : ∀ b ∈ bs2, 0 ≤ b ∧ b < 256) :
    Calls Try.prog 4 #[.slice A n c, .slice A2 n2 c2] w fun e w' => e = .returned (.bool true) ∧ Below w.heap.size w w' := by
  have hn' := hide hn
  have hb' := hide hb
  have hn2' := hide hn2
  have hb2' := hide hb2
  clear hn hb hn2 hb2
  by_cases hbig : 1048576 < n
  · have d1 : decide (1048576 < (n : Int)) = true := by simp; omega
    go_enter Try.func4, Try.ntmps4
    go_wp2
    go_ret
    exact ⟨rfl, Below.refl _ _⟩
  have d1 : decide (1048576 < (n : Int)) = false := by simp; omega
  by_cases hbig2 : 1048576 < n2
  · have d2 : decide (1048576 < (n2 : Int)) = true := by simp; omega
    go_enter Try.func4, Try.ntmps4
    go_wp2
    go_ret
    exact ⟨rfl, Below.refl _ _⟩
  have d2 : decide (1048576 < (n2 : Int)) = false := by simp; omega
  go_enter Try.func4, Try.ntmps4
  go_wp2_with fail
  refine (DrawVotesOk_t A n c bs w hn'.out hc hcm hs hb'.out).mono ?_
  rintro e w1 ⟨c1, B, p, q, view, C, m, f, rfl, h2, hp, h3, hT, hB1, ls, hO, hP⟩
  obtain ⟨ts, r1, _⟩ := hT.rdM h2
  obtain ⟨vs, r2, hv2⟩ := hT.rdV h3
  have hbt : Hid (bareTurns ts) := hide (bare_of r1 hO hP)
  obtain ⟨ms, hml, hSl, _⟩ := hT.parts (by decide) h2
  replace hml := hide hml
  replace hSl := hide hSl
  have hs2' := hide ((hs2.below hB1 (Nat.le_refl _)).mono (Nat.le_refl _) hB1.size)
  have hany := hide (any_of hT h2 hv2)
  clear hO hP ls hv2 d1 d2 hs
  have hvi : Hid (Calls Try.prog 12 #[.slice B p q, .int .i64 view, .slice C m f] w1 fun e W' => e = .returned (.bool (okVotesI ts view vs)) ∧ Below w1.heap.size w1 W') := hide (VotesOk_c B p q 0 w1.heap.size ts view C m f 0 w1.heap.size vs w1 r1 r2 (Nat.le_refl _) (Nat.le_refl _))
  have hvs : Hid (∀ W, Below w1.heap.size w1 W → Calls Try.prog 13 #[.slice B p q, .int .i64 view, .slice C m f] W fun e W' => e = .returned (.bool (okVotesI ts view vs)) ∧ Below W.heap.size W W') := hide (fun W h => by
    rw [votes_eq hbt.out view vs]
    exact specVotesOk_c B p q 0 w1.heap.size ts view C m f 0 w1.heap.size vs W (r1.below msg_kept h (Nat.le_refl _)) (r2.below vote_kept h (Nat.le_refl _)) h.size h.size (fun v hv k hk => (hany.out v hv k hk).below h))
  have hl := hide r2.len
  clear hany
  go_wp2_with fail
  refine hvi.out.mono ?_
  rintro e w2 ⟨rfl, hb2⟩
  clear hvi
  go_wp2_with fail
  refine (hvs.out w2 hb2).mono ?_
  rintro e w3 ⟨rfl, hb3⟩
  have hB3 := hb2.trans (hb3.mono hb2.size)
  clear hb2 hb3
  cases hok : okVotesI ts view vs
  · have hokh := hide hok
    clear hok
    go_wp2_with fail
    refine (hvs.out w3 hB3).mono ?_
    rintro e w4 ⟨rfl, hb4⟩
    rw [hokh.out]
    go_wp2
    go_ret
    exact ⟨rfl, hB1.trans ((hB3.trans (hb4.mono hB3.size)).mono hB1.size)⟩
  · have hl3 : Hid (vs.length = 3) := hide (votes_len hok)
    have hm3 : Hid (m = 3) := hide (r2.len.trans (votes_len hok))
    have hup := hide (votes_up_ hok)
    have hsd := hide (votes_said hbt.out hok)
    have hal : Hid (∀ mm, okVotesI (ts ++ [mm]) view vs = true) := hide (fun mm => votes_up hok)
    have htw : Hid (okVotesI ts view (vs.drop 1) = false) := hide (votes_two (by rw [List.length_drop, votes_len hok]; decide))
    have hp0 : 0 < p := by
      have h1 := hsd.out 0 (by rw [votes_len hok]; decide)
      rw [r1.len]
      exact List.length_pos_of_mem h1
    obtain ⟨bv, ov, rfl, _, _⟩ := r2.addr (k := 0) (by rw [votes_len hok]; decide)
    have hdr := hide (r2.drop_ 1 (by have := hm3.out; omega))
    have hmf : m ≤ f := r2.cap
    have hfm : f ≤ maxLen := r2.max
    unfold maxLen at hfm
    clear hok hvs
    go_wp2
    go_loopw [9] (fun iv wr => ∃ i : Nat, i ≤ m ∧ iv = .int .i64 (i : Int) ∧ Below w3.heap.size w3 wr) (fun iv _ => m - (intOf iv).toNat)
    case atStart => exact ⟨0, Nat.zero_le _, rfl, Below.refl _ _⟩
    case round =>
      obtain ⟨i, him, rfl, hbr⟩ := hrel
      have hBr := hB3.trans (hbr.mono hB3.size)
      have hzr := hBr.size
      by_cases hlt : i < m
      · have hlx : i < vs.length := by have := hl.out; omega
        obtain ⟨A1, n1, c2_, a0, a1, r0⟩ := (r2.below vote_kept hBr (Nat.le_refl _)).vote hlx
        rcases Nat.eq_zero_or_pos i with rfl | hpos
        · simp only [Nat.zero_mul, Nat.add_zero] at a0 a1
          have r0 := r0.below (flat_kept _) ((Below.refl wr.heap.size wr).drew) hzr
          have hD := hBr.drew
          have hsc : Hid (Calls Try.prog 14 #[.slice B p q, .agg #[.int .i64 5, .int .i64 vs[0].1, .int .i64 view, .int .i64 0, .int .i64 0, .int .i64 0, .int .i64 0, .int .i64 0, .int .i64 0, .slice A1 n1 c2_, .slice none 0 0]] wr.drew fun e W' => e = .returned (.bool true) ∧ Below wr.drew.heap.size wr.drew W') := hide (by
            have h := SaidHas_c ts (turnM view vs[0]) B p q 0 w1.heap.size 0 w1.heap.size A1 none n1 c2_ 0 0 wr.drew (r1.below msg_kept hD (Nat.le_refl _)) r0 (RdN.nil_ _ _ _ _ _ _ _ (by simp [maxLen])) hD.size hD.size
            rw [decide_eq_true (hsd.out (0) hlx)] at h
            exact h)
          clear r0 hD
          go_wp2
          refine wp_region_T (fun _ => True) [] [] [] [0, 1, 2, 3, 4, 5, 6, 7, 8, 9, 10, 11, 12, 13, 14, 15, 16, 17, 18, 19, 20, 21, 22, 23, 24, 25, 26, 27, 28, 29, 30, 31, 32] (by kernel_rfl) (by kernel_rfl) (by kernel_rfl) trivial ?_; simp only [pickL, List.getElem?_cons_succ, List.getElem?_cons_zero]
          go_wp2_with (first
            | ((refine no_implicit_lambda% (g24_ ?_)); intro K hK) | (refine no_implicit_lambda% (g1_ ?_)) | ((refine no_implicit_lambda% (g2_ ?_)); intro K hK) | (refine no_implicit_lambda% (g3_ ?_))
            | (go_at_call 14; refine hsc.out.mono ?_; rintro e w4 ⟨rfl, hb4⟩)
            | fail)
          go_roundw
          case rel => exact ⟨0 + 1, by omega, by go_num, hbr.drew.trans (hb4.mono hbr.size)⟩
          case measure => simp [intOf]; omega
        · obtain ⟨j, rfl⟩ : ∃ j, i = j + 1 := ⟨i - 1, by omega⟩
          have hlj : j < vs.length := by omega
          obtain ⟨_, _, _, p0, _⟩ := (r2.below vote_kept hBr (Nat.le_refl _)).vote hlj
          have e2 : decide (vs[j + 1].1 ≤ vs[j].1) = false := by
            have h9 := hup.out (j + 1) hlx (by omega)
            simp only [Nat.add_sub_cancel] at h9
            exact decide_eq_false (by omega)
          have r0 := r0.below (flat_kept _) ((Below.refl wr.heap.size wr).drew) hzr
          have hD := hBr.drew
          have hsc : Hid (Calls Try.prog 14 #[.slice B p q, .agg #[.int .i64 5, .int .i64 vs[j + 1].1, .int .i64 view, .int .i64 0, .int .i64 0, .int .i64 0, .int .i64 0, .int .i64 0, .int .i64 0, .slice A1 n1 c2_, .slice none 0 0]] wr.drew fun e W' => e = .returned (.bool true) ∧ Below wr.drew.heap.size wr.drew W') := hide (by
            have h := SaidHas_c ts (turnM view vs[j + 1]) B p q 0 w1.heap.size 0 w1.heap.size A1 none n1 c2_ 0 0 wr.drew (r1.below msg_kept hD (Nat.le_refl _)) r0 (RdN.nil_ _ _ _ _ _ _ _ (by simp [maxLen])) hD.size hD.size
            rw [decide_eq_true (hsd.out (j + 1) hlx)] at h
            exact h)
          clear r0 hD
          go_wp2
          refine wp_region_T (fun _ => True) [] [] [] [0, 1, 2, 3, 4, 5, 6, 7, 8, 9, 10, 11, 12, 13, 14, 15, 16, 17, 18, 19, 20, 21, 22, 23, 24, 25, 26, 27, 28, 29, 30, 31, 32] (by kernel_rfl) (by kernel_rfl) (by kernel_rfl) trivial ?_; simp only [pickL, List.getElem?_cons_succ, List.getElem?_cons_zero]
          go_wp2_with (first
            | ((refine no_implicit_lambda% (g24_ ?_)); intro K hK) | (refine no_implicit_lambda% (g1_ ?_)) | ((refine no_implicit_lambda% (g2_ ?_)); intro K hK) | (refine no_implicit_lambda% (g3_ ?_))
            | (go_at_call 14; refine hsc.out.mono ?_; rintro e w4 ⟨rfl, hb4⟩)
            | fail)
          go_roundw
          case rel => exact ⟨j + 1 + 1, by omega, by go_num, hbr.drew.trans (hb4.mono hbr.size)⟩
          case measure => simp [intOf]; omega
      · have him3 : i = m := by omega
        clear hlt him hl
        subst him3
        have hS : St ⟨c1, w1, none⟩ 0 21000 6000000 c1 [] [] wr := (St.start hT (fun g hg => by cases hg)).past hBr
        have hi3 := hm3.out
        subst hi3
        (try clear hc ht hv); (refine no_implicit_lambda% (fct ?_)); intro hc ht hv
        go_wp2_with (first
    | ((refine no_implicit_lambda% (hdE ?_)); intro K hK; (first
      | ((with_reducible refine at_dst 93 ?_ ?_); (focus rfl); (with_reducible apply wp_appK hS _); (focus rfl); (focus exact Try.underlying23); (focus rfl); (focus (first | exact ix0 | exact ix1 | exact ix2 | exact ix3 | exact ix4 | exact ix5 | exact ix6)); (focus rfl); (focus exact inM); (focus exact zoM); (focus decide); (focus (exact slA)); (focus exact hS.own0 (by first | exact ix0 | exact ix1 | exact ix2 | exact ix3 | exact ix4 | exact ix5 | exact ix6)); (focus exact hml.out); (focus exact ((hSl.out.below hS.fin.2.2 (Nat.le_refl _)).mono (Nat.le_refl _) hS.base)); (focus omega); (focus (unfold maxLen; omega)); (try clear hc ht hv); clear hS; intro c A93 d93 w hS hO50; (try simp only [List.set_cons_zero, List.set_cons_succ, Nat.zero_add, List.nil_append] at hS); (simp only [List.nil_append, Nat.zero_add] at hO50); (refine no_implicit_lambda% (fct ?_)); intro hc ht hv)
      | ((with_reducible refine at_dst 95 ?_ ?_); (focus rfl); (with_reducible apply wp_row1B hS (fun y => y = _)); (focus rfl); (focus rfl); (focus exact Try.underlying23); (focus exact inM); (focus rfl); (focus decide); (focus (exact tyA)); (focus exact rfl); (try clear hc ht hv); clear hS; intro c b95 w hS hx hbl; (try replace hO50 := hO50.below hbl (Nat.le_refl _)); clear hbl hx; (refine no_implicit_lambda% (fct ?_)); intro hc ht hv)
      | ((with_reducible refine at_dst 96 ?_ ?_); (focus rfl); (first | (obtain ⟨mc, hmc, hmS⟩ := hS.part1 (j := 0) rfl) | (obtain ⟨mc, hmc, hmS⟩ := hS.part1 (j := 1) rfl)); (with_reducible apply wp_appK hS _); (focus rfl); (focus exact Try.underlying23); (focus rfl); (focus (first | exact ix0 | exact ix1 | exact ix2 | exact ix3 | exact ix4 | exact ix5 | exact ix6)); (focus rfl); (focus exact inM); (focus exact zoM); (focus decide); (focus (exact slA)); (focus exact hO50); (focus exact (rfl : [mc].length = 1)); (focus exact hmS); (focus decide); (focus (unfold maxLen; omega)); (try clear hc ht hv); clear hS; intro c AA dA w hS hOA; (try simp only [List.set_cons_zero, List.set_cons_succ, Nat.zero_add, List.nil_append] at hS); (obtain ⟨mm, hmm⟩ := hS.tw.msgM (hS.ty 0 rfl)); (obtain ⟨NA, hNA, hxr⟩ : ∃ NA, NA ≤ w.heap.size ∧ RdN 11 msgR w 0 NA AA (p + 1) dA (ts ++ [mm]) := ⟨_, Nat.le_refl _, rdn_own r1 hml.out hSl.out (by rw [hmc]; exact hmm) hS.fin.2.2 hOA rfl⟩); clear hmm hmS hmc hOA hO50; (refine no_implicit_lambda% (fct ?_)); intro hc ht hv)
      | ((with_reducible refine at_dst 11 ?_ ?_); (focus rfl); (refine no_implicit_lambda% (alzM ?_)); (try clear hc ht hv); clear hS; intro b11 w hS hc ht hv)
      | ((with_reducible refine at_dst 91 ?_ ?_); (focus rfl); ((refine no_implicit_lambda% (r0zMnoP ?_)); (try clear hc ht hv); clear hS; intro c b w hS hx; (try replace hrs := hrs.mono hx.le); (try replace hus := hus.mono hx.le); (try clear hx); intro hc ht hv))
      | ((with_reducible refine at_dst 95 ?_ ?_); (focus rfl); ((refine no_implicit_lambda% (r1zMnoP ?_)); (try clear hc ht hv); clear hS; intro c b w hS hx; (try replace hrs := hrs.mono hx.le); (try replace hus := hus.mono hx.le); (try clear hx); intro hc ht hv))
      | ((with_reducible refine at_dst 93 ?_ ?_); (focus rfl); ((refine no_implicit_lambda% (apzM ?_)); (try clear hc ht hv); clear hS; intro c A93 d93 w hS hx; (try replace hrs := hrs.mono hx.le); (try replace hus := hus.mono hx.le); (try clear hx); intro hc ht hv))
      | ((with_reducible refine at_dst 96 ?_ ?_); (focus rfl); ((refine no_implicit_lambda% (apzM ?_)); (try clear hc ht hv); clear hS; intro c A96 d96 w hS hx; (try replace hrs := hrs.mono hx.le); (try replace hus := hus.mono hx.le); (try clear hx); intro hc ht hv))
      | ((refine no_implicit_lambda% (sazM ?_)); (try clear hc ht hv); clear hS; intro w hS hc ht hv)))
    | (fail)
    | (go_at_call 12; (first | ((with_reducible show Calls _ _ #[.slice B p q, _, _] _ _); refine (VotesOk_c B p q 0 w1.heap.size ts view _ _ _ 0 w1.heap.size (vs.drop 1) _ (r1.below msg_kept hS.fin.2.2 (Nat.le_refl _)) (hdr.out.below vote_kept hS.fin.2.2 (Nat.le_refl _)) hS.base hS.base).mono ?_; rintro e w ⟨rfl, hb⟩; simp only [htw.out]) | ((with_reducible show Calls _ _ #[.slice AA _ _, _, _] _ _); refine (VotesOk_c AA _ dA 0 NA _ view _ _ _ 0 w1.heap.size vs _ hxr (r2.below vote_kept hS.fin.2.2 (Nat.le_refl _)) hNA hS.base).mono ?_; rintro e w ⟨rfl, hb⟩; simp only [hal.out])); (try replace hxr := hxr.below msg_kept hb hNA); (try replace hNA := Nat.le_trans hNA hb.size); replace hS := hS.past hb; clear hb; (try clear hc ht hv); (try dsimp only); (refine no_implicit_lambda% (fct ?_)); intro hc ht hv)
    | (fail)
    | (fail)
    | (go_at_call 10; refine (DrawSaidHas_t A2 n2 c2 bs2 _ hn2'.out hc2 hcm2 ((hs2'.out.below hS.fin.2.2 (Nat.le_refl _)).mono (Nat.le_refl _) hS.base) hb2'.out).mono ?_; rintro e w hPD; (obtain ⟨c, Bx, px, qx, us, rfl, hus, hx, hT', hb⟩ := hPD.frame hS.tw (Nat.le_refl _) (Nat.le_refl _)); replace hS := hS.below hx hT' (Nat.le_refl _) (Nat.le_refl _) hb; clear hPD hx hT' hb; (try clear hc ht hv); (obtain ⟨_, _, _, _, _, _, _, _, _, _, _, rfl, _, _, _, _, _⟩ := hus.msg); (try dsimp only); (refine no_implicit_lambda% (fct ?_)); intro hc ht hv)
    | ((refine no_implicit_lambda% (rglawsFnVotesOk13 ?_)); (try clear hc ht hv); clear hS; intro hS hc ht hv)
    | ((with_reducible refine wpOF_both ?_ ?_) <;> (refine no_implicit_lambda% (pk_ ?_))) | ((with_reducible refine wpOF_three ?_ ?_ ?_) <;> (refine no_implicit_lambda% (pk_ ?_))) | ((with_reducible refine MS.and_ ?_ ?_); (focus (exact msA)); intro hM) | (refine no_implicit_lambda% (ofS ?_)) | ((refine no_implicit_lambda% (ofK ?_)); intro K hK) | (refine no_implicit_lambda% (ofL ?_)) | ((refine no_implicit_lambda% (ofM ?_)); intro K hK) | ((refine no_implicit_lambda% (ofX ?_)); intro K hK) | (refine no_implicit_lambda% (ofN ?_)) | ((with_reducible apply wpT_split); (focus rfl); (focus rfl); (focus rfl); all_goals (intro hxx; simp only [hxx]))
    | fail)
        all_goals (go_ret; exact ⟨rfl, hB1.trans (hS.fin.2.2.mono hB1.size)⟩)
end Go.Proofs.Ytopmbnnjhoinkaa
