/-
  What 'FVd' rests on (texts of this seat put together: TXo).
  Conditions: none.
-/
import Derived.Test.YtopmbnnjhoinkaaVV35
namespace Go.Proofs.Ytopmbnnjhoinkaa
open Go Go.RowKit Rg
set_option linter.unusedVariables false
set_option linter.unusedSimpArgs false
set_option maxHeartbeats 1000000
section
variable {T D : Nat} {c0 : Cx} {w0 : World} {rs cs us vs : List Value} {A : Option Addr} {n d : Nat}
set_option maxRecDepth 100000 in
set_option maxHeartbeats 20000000 in
theorem l5Offer_t (hT : TW T D c0 w0) (hr : TyE T D c0 tR rs) (hm : TyE T D c0 tM us) (hs : SlV c0 34 (.slice A n d)) (hB : T ≤ 1000000) :
    Calls Try.prog 91 #[.agg rs.toArray, .agg us.toArray, .slice A n d] w0 fun e w' => PRM (T + 1) D 1 c0 w0 e w' := by
  obtain ⟨me, vw, lv, nx, A1, n1, d1, A2, n2, d2, A3, n3, d3, rfl, g1, g2, g3, g4, g5, g6, g7, g8⟩ := hr.rep
  obtain ⟨kd, fr, mv, sq, mr, B1, p1, q1, B2, p2, q2, rfl, m1, m2, m3, m4, m5⟩ := hm.msg
  cases lv
  · have hS : St ⟨c0, w0, none⟩ 0 (T) (D) c0 [] [] w0 := (St.start hT (fun g hg => by cases hg)).raise (by omega) (by omega)
    go_enter Try.func91, Try.ntmps91
    go_wp2_with (first
        | ((refine no_implicit_lambda% (hdE ?_)); intro K hK; (first
          | ((with_reducible refine at_dst 3 ?_ ?_); (focus rfl); (refine no_implicit_lambda% (aB ?_)); (try clear hc ht hv); clear hS; intro b3 w hS hc ht hv)
          | ((with_reducible refine at_dst 4 ?_ ?_); (focus rfl); (refine no_implicit_lambda% (aB ?_)); (try clear hc ht hv); clear hS; intro b4 w hS hc ht hv)
          | ((with_reducible refine at_dst 6 ?_ ?_); (focus rfl); (refine no_implicit_lambda% (alzR ?_)); (try clear hc ht hv); clear hS; intro b6 w hS hc ht hv)
          | ((with_reducible refine at_dst 8 ?_ ?_); (focus rfl); (refine no_implicit_lambda% (alzQ ?_)); (try clear hc ht hv); clear hS; intro b8 w hS hc ht hv)
          | ((refine no_implicit_lambda% (sazQ ?_)); (try clear hc ht hv); clear hS; intro w hS hc ht hv)
          | ((refine no_implicit_lambda% (sazR ?_)); (try clear hc ht hv); clear hS; intro w hS hc ht hv)))
        | (go_at_call 99; refine (l5Took_t hS.tw tyA).mono ?_; rintro e w ⟨tq, bk, rfl, hb⟩; replace hS := hS.past hb; clear hb; (try clear hc ht hv); (try dsimp only); (refine no_implicit_lambda% (fct ?_)); intro hc ht hv)
        | (go_at_call 71; refine (l3Leader_t _ _).mono ?_; rintro e w' ⟨x, rfl, rfl⟩; (try dsimp only))
        | (go_at_call 100; refine (l4Asked_t hS.tw slA _ _ _ _ _).mono ?_; rintro e w ⟨bq, rfl, hb⟩; replace hS := hS.past hb; clear hb; (try clear hc ht hv); (try dsimp only); (refine no_implicit_lambda% (fct ?_)); intro hc ht hv; cases bq)
        | (go_at_call 101; refine (l5Yes_t hS.tw tyA tyA (by omega)).mono ?_; rintro e w ⟨c, rs, Am, nm, dm, rfl, hrs, hnm, hsm, ⟨lsm, hom, hpm⟩, hx, hT', hb⟩; (try replace hobV := KB.call hx hb hobV); have hlt_ := hS.ownLt; replace hS := (hS.below hx hT' (by omega) (by omega) hb).addV hsm hom hpm hS.base hlt_; clear hx hT' hb hlt_ hom hpm hsm lsm; (try clear hc ht hv); (obtain ⟨_, _, _, _, _, _, _, _, _, _, _, _, _, rfl, _, _, _, _, _, _, _, _⟩ := hrs.rep); (try dsimp only); (refine no_implicit_lambda% (fct ?_)); intro hc ht hv)
        | ((refine no_implicit_lambda% (rgspecl5Offer2 ?_)); (try clear hc ht hv); clear hS; intro hS hc ht hv)
        | ((with_reducible refine wpOF_both ?_ ?_) <;> (refine no_implicit_lambda% (pk_ ?_))) | ((with_reducible refine wpOF_three ?_ ?_ ?_) <;> (refine no_implicit_lambda% (pk_ ?_))) | ((with_reducible refine MS.and_ ?_ ?_); (focus (exact msA)); intro hM) | (refine no_implicit_lambda% (ofS ?_)) | ((refine no_implicit_lambda% (ofK ?_)); intro K hK) | (refine no_implicit_lambda% (ofL ?_)) | ((refine no_implicit_lambda% (ofM ?_)); intro K hK) | ((refine no_implicit_lambda% (ofX ?_)); intro K hK) | (refine no_implicit_lambda% (ofN ?_)) | ((with_reducible apply wpT_split); (focus rfl); (focus rfl); (focus rfl); all_goals (intro hxx; simp only [hxx]))
        | fail)
    all_goals first | (exact no_implicit_lambda% fRM8) | (exact no_implicit_lambda% fRM4_3)
  cases f1 : (mv != vw)
  · cases f2 : (fr == me)
    · have hS : St ⟨c0, w0, none⟩ 0 (T) (D) c0 [] [] w0 := (St.start hT (fun g hg => by cases hg)).raise (by omega) (by omega)
      go_enter Try.func91, Try.ntmps91
      go_wp2_with (first
          | ((refine no_implicit_lambda% (hdE ?_)); intro K hK; (first
            | ((with_reducible refine at_dst 3 ?_ ?_); (focus rfl); (refine no_implicit_lambda% (aB ?_)); (try clear hc ht hv); clear hS; intro b3 w hS hc ht hv)
            | ((with_reducible refine at_dst 4 ?_ ?_); (focus rfl); (refine no_implicit_lambda% (aB ?_)); (try clear hc ht hv); clear hS; intro b4 w hS hc ht hv)
            | ((with_reducible refine at_dst 6 ?_ ?_); (focus rfl); (refine no_implicit_lambda% (alzR ?_)); (try clear hc ht hv); clear hS; intro b6 w hS hc ht hv)
            | ((with_reducible refine at_dst 8 ?_ ?_); (focus rfl); (refine no_implicit_lambda% (alzQ ?_)); (try clear hc ht hv); clear hS; intro b8 w hS hc ht hv)
            | ((refine no_implicit_lambda% (sazQ ?_)); (try clear hc ht hv); clear hS; intro w hS hc ht hv)
            | ((refine no_implicit_lambda% (sazR ?_)); (try clear hc ht hv); clear hS; intro w hS hc ht hv)))
          | (go_at_call 99; refine (l5Took_t hS.tw tyA).mono ?_; rintro e w ⟨tq, bk, rfl, hb⟩; replace hS := hS.past hb; clear hb; (try clear hc ht hv); (try dsimp only); (refine no_implicit_lambda% (fct ?_)); intro hc ht hv)
          | (go_at_call 71; refine (l3Leader_t _ _).mono ?_; rintro e w' ⟨x, rfl, rfl⟩; (try dsimp only))
          | (go_at_call 100; refine (l4Asked_t hS.tw slA _ _ _ _ _).mono ?_; rintro e w ⟨bq, rfl, hb⟩; replace hS := hS.past hb; clear hb; (try clear hc ht hv); (try dsimp only); (refine no_implicit_lambda% (fct ?_)); intro hc ht hv; cases bq)
          | (go_at_call 101; refine (l5Yes_t hS.tw tyA tyA (by omega)).mono ?_; rintro e w ⟨c, rs, Am, nm, dm, rfl, hrs, hnm, hsm, ⟨lsm, hom, hpm⟩, hx, hT', hb⟩; (try replace hobV := KB.call hx hb hobV); have hlt_ := hS.ownLt; replace hS := (hS.below hx hT' (by omega) (by omega) hb).addV hsm hom hpm hS.base hlt_; clear hx hT' hb hlt_ hom hpm hsm lsm; (try clear hc ht hv); (obtain ⟨_, _, _, _, _, _, _, _, _, _, _, _, _, rfl, _, _, _, _, _, _, _, _⟩ := hrs.rep); (try dsimp only); (refine no_implicit_lambda% (fct ?_)); intro hc ht hv)
          | ((refine no_implicit_lambda% (rgspecl5Offer2 ?_)); (try clear hc ht hv); clear hS; intro hS hc ht hv)
          | ((with_reducible refine wpOF_both ?_ ?_) <;> (refine no_implicit_lambda% (pk_ ?_))) | ((with_reducible refine wpOF_three ?_ ?_ ?_) <;> (refine no_implicit_lambda% (pk_ ?_))) | ((with_reducible refine MS.and_ ?_ ?_); (focus (exact msA)); intro hM) | (refine no_implicit_lambda% (ofS ?_)) | ((refine no_implicit_lambda% (ofK ?_)); intro K hK) | (refine no_implicit_lambda% (ofL ?_)) | ((refine no_implicit_lambda% (ofM ?_)); intro K hK) | ((refine no_implicit_lambda% (ofX ?_)); intro K hK) | (refine no_implicit_lambda% (ofN ?_)) | ((with_reducible apply wpT_split); (focus rfl); (focus rfl); (focus rfl); all_goals (intro hxx; simp only [hxx]))
          | fail)
      all_goals first | (exact no_implicit_lambda% fRM8) | (exact no_implicit_lambda% fRM4_3)
    · have hS : St ⟨c0, w0, none⟩ 0 (T) (D) c0 [] [] w0 := (St.start hT (fun g hg => by cases hg)).raise (by omega) (by omega)
      go_enter Try.func91, Try.ntmps91
      go_wp2_with (first
          | ((refine no_implicit_lambda% (hdE ?_)); intro K hK; (first
            | ((with_reducible refine at_dst 3 ?_ ?_); (focus rfl); (refine no_implicit_lambda% (aB ?_)); (try clear hc ht hv); clear hS; intro b3 w hS hc ht hv)
            | ((with_reducible refine at_dst 4 ?_ ?_); (focus rfl); (refine no_implicit_lambda% (aB ?_)); (try clear hc ht hv); clear hS; intro b4 w hS hc ht hv)
            | ((with_reducible refine at_dst 6 ?_ ?_); (focus rfl); (refine no_implicit_lambda% (alzR ?_)); (try clear hc ht hv); clear hS; intro b6 w hS hc ht hv)
            | ((with_reducible refine at_dst 8 ?_ ?_); (focus rfl); (refine no_implicit_lambda% (alzQ ?_)); (try clear hc ht hv); clear hS; intro b8 w hS hc ht hv)
            | ((refine no_implicit_lambda% (sazQ ?_)); (try clear hc ht hv); clear hS; intro w hS hc ht hv)
            | ((refine no_implicit_lambda% (sazR ?_)); (try clear hc ht hv); clear hS; intro w hS hc ht hv)))
          | (go_at_call 99; refine (l5Took_t hS.tw tyA).mono ?_; rintro e w ⟨tq, bk, rfl, hb⟩; replace hS := hS.past hb; clear hb; (try clear hc ht hv); (try dsimp only); (refine no_implicit_lambda% (fct ?_)); intro hc ht hv)
          | (go_at_call 71; refine (l3Leader_t _ _).mono ?_; rintro e w' ⟨x, rfl, rfl⟩; (try dsimp only))
          | (go_at_call 100; refine (l4Asked_t hS.tw slA _ _ _ _ _).mono ?_; rintro e w ⟨bq, rfl, hb⟩; replace hS := hS.past hb; clear hb; (try clear hc ht hv); (try dsimp only); (refine no_implicit_lambda% (fct ?_)); intro hc ht hv; cases bq)
          | (go_at_call 101; refine (l5Yes_t hS.tw tyA tyA (by omega)).mono ?_; rintro e w ⟨c, rs, Am, nm, dm, rfl, hrs, hnm, hsm, ⟨lsm, hom, hpm⟩, hx, hT', hb⟩; (try replace hobV := KB.call hx hb hobV); have hlt_ := hS.ownLt; replace hS := (hS.below hx hT' (by omega) (by omega) hb).addV hsm hom hpm hS.base hlt_; clear hx hT' hb hlt_ hom hpm hsm lsm; (try clear hc ht hv); (obtain ⟨_, _, _, _, _, _, _, _, _, _, _, _, _, rfl, _, _, _, _, _, _, _, _⟩ := hrs.rep); (try dsimp only); (refine no_implicit_lambda% (fct ?_)); intro hc ht hv)
          | ((refine no_implicit_lambda% (rgspecl5Offer2 ?_)); (try clear hc ht hv); clear hS; intro hS hc ht hv)
          | ((with_reducible refine wpOF_both ?_ ?_) <;> (refine no_implicit_lambda% (pk_ ?_))) | ((with_reducible refine wpOF_three ?_ ?_ ?_) <;> (refine no_implicit_lambda% (pk_ ?_))) | ((with_reducible refine MS.and_ ?_ ?_); (focus (exact msA)); intro hM) | (refine no_implicit_lambda% (ofS ?_)) | ((refine no_implicit_lambda% (ofK ?_)); intro K hK) | (refine no_implicit_lambda% (ofL ?_)) | ((refine no_implicit_lambda% (ofM ?_)); intro K hK) | ((refine no_implicit_lambda% (ofX ?_)); intro K hK) | (refine no_implicit_lambda% (ofN ?_)) | ((with_reducible apply wpT_split); (focus rfl); (focus rfl); (focus rfl); all_goals (intro hxx; simp only [hxx]))
          | fail)
      all_goals first | (exact no_implicit_lambda% fRM8) | (exact no_implicit_lambda% fRM4_3)
  · have hS : St ⟨c0, w0, none⟩ 0 (T) (D) c0 [] [] w0 := (St.start hT (fun g hg => by cases hg)).raise (by omega) (by omega)
    go_enter Try.func91, Try.ntmps91
    go_wp2_with (first
        | ((refine no_implicit_lambda% (hdE ?_)); intro K hK; (first
          | ((with_reducible refine at_dst 3 ?_ ?_); (focus rfl); (refine no_implicit_lambda% (aB ?_)); (try clear hc ht hv); clear hS; intro b3 w hS hc ht hv)
          | ((with_reducible refine at_dst 4 ?_ ?_); (focus rfl); (refine no_implicit_lambda% (aB ?_)); (try clear hc ht hv); clear hS; intro b4 w hS hc ht hv)
          | ((with_reducible refine at_dst 6 ?_ ?_); (focus rfl); (refine no_implicit_lambda% (alzR ?_)); (try clear hc ht hv); clear hS; intro b6 w hS hc ht hv)
          | ((with_reducible refine at_dst 8 ?_ ?_); (focus rfl); (refine no_implicit_lambda% (alzQ ?_)); (try clear hc ht hv); clear hS; intro b8 w hS hc ht hv)
          | ((refine no_implicit_lambda% (sazQ ?_)); (try clear hc ht hv); clear hS; intro w hS hc ht hv)
          | ((refine no_implicit_lambda% (sazR ?_)); (try clear hc ht hv); clear hS; intro w hS hc ht hv)))
        | (go_at_call 99; refine (l5Took_t hS.tw tyA).mono ?_; rintro e w ⟨tq, bk, rfl, hb⟩; replace hS := hS.past hb; clear hb; (try clear hc ht hv); (try dsimp only); (refine no_implicit_lambda% (fct ?_)); intro hc ht hv)
        | (go_at_call 71; refine (l3Leader_t _ _).mono ?_; rintro e w' ⟨x, rfl, rfl⟩; (try dsimp only))
        | (go_at_call 100; refine (l4Asked_t hS.tw slA _ _ _ _ _).mono ?_; rintro e w ⟨bq, rfl, hb⟩; replace hS := hS.past hb; clear hb; (try clear hc ht hv); (try dsimp only); (refine no_implicit_lambda% (fct ?_)); intro hc ht hv; cases bq)
        | (go_at_call 101; refine (l5Yes_t hS.tw tyA tyA (by omega)).mono ?_; rintro e w ⟨c, rs, Am, nm, dm, rfl, hrs, hnm, hsm, ⟨lsm, hom, hpm⟩, hx, hT', hb⟩; (try replace hobV := KB.call hx hb hobV); have hlt_ := hS.ownLt; replace hS := (hS.below hx hT' (by omega) (by omega) hb).addV hsm hom hpm hS.base hlt_; clear hx hT' hb hlt_ hom hpm hsm lsm; (try clear hc ht hv); (obtain ⟨_, _, _, _, _, _, _, _, _, _, _, _, _, rfl, _, _, _, _, _, _, _, _⟩ := hrs.rep); (try dsimp only); (refine no_implicit_lambda% (fct ?_)); intro hc ht hv)
        | ((refine no_implicit_lambda% (rgspecl5Offer2 ?_)); (try clear hc ht hv); clear hS; intro hS hc ht hv)
        | ((with_reducible refine wpOF_both ?_ ?_) <;> (refine no_implicit_lambda% (pk_ ?_))) | ((with_reducible refine wpOF_three ?_ ?_ ?_) <;> (refine no_implicit_lambda% (pk_ ?_))) | ((with_reducible refine MS.and_ ?_ ?_); (focus (exact msA)); intro hM) | (refine no_implicit_lambda% (ofS ?_)) | ((refine no_implicit_lambda% (ofK ?_)); intro K hK) | (refine no_implicit_lambda% (ofL ?_)) | ((refine no_implicit_lambda% (ofM ?_)); intro K hK) | ((refine no_implicit_lambda% (ofX ?_)); intro K hK) | (refine no_implicit_lambda% (ofN ?_)) | ((with_reducible apply wpT_split); (focus rfl); (focus rfl); (focus rfl); all_goals (intro hxx; simp only [hxx]))
        | fail)
    all_goals first | (exact no_implicit_lambda% fRM8) | (exact no_implicit_lambda% fRM4_3)
end
end Go.Proofs.Ytopmbnnjhoinkaa
